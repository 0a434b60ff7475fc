/- Merged text 12 of the base: D11, D12, D13, Lm11, Lm13, Lm14, D14, D15, D16, E1, Ye, E2, E3, E4. No conditions beyond those stated. -/
import Derived.Test.YtkhemfnlflbniaaGreatDoorB11
import Derived.Test.YtkhemfnlflbniaaGreatDoorB06
import Derived.Test.YtkhemfnlflbniaaGreatDoorB07
import Derived.Test.YtkhemfnlflbniaaGreatDoorB10
import Derived.Deep.MidRow
import Derived.Test.YtkhemfnlflbniaaGreatDoorB05
import Derived.Test.YtkhemfnlflbniaaGreatDoorB03
import Derived.Deep.DeepCutAuto
import Derived.Test.YtkhemfnlflbniaaGreatDoorB04
set_option maxRecDepth 100000
set_option maxHeartbeats 8000000
namespace Go.Proofs.YtkhemfnlflbniaaGreatDoor
open Go Go.RowKit Go.Shelf Tryz
theorem wy {w:World} {base:Nat} {v:Value} {bs news:List Bd} (hown:w.ownsRow base 65 4 v bs.length (bh bs)) {b:Nat} (h:w.heap[b]?=some (.cells (bh news).toArray 65 (0,0))) (hx:bs.length≤100000) (hn:news.length≤100000) (hb:base≤w.heap.size) (ty:TypeId) :
 ∃v' w',(Builtin.append_ #[59,59] ty #[v,.slice (some ⟨b,0,none⟩) news.length news.length]).run prog w=.ok v' w'∧w'.ownsRow base 65 4 v' (bs++news).length (bh (bs++news))∧Below base w w' ∧
  (∀(k:Nat) (cs:Array Value) (t:TypeId) (f:Nat×Nat),w.heap[k]?=some (.cells cs t f)→t≠65→w'.heap[k]?=some (.cells cs t f)):=by
 obtain⟨i0,hi,hz0,hz1,hz2⟩:=info_parts lR
 have hnews:∀j u,(bh news)[j]?=some u→w.cell? ((⟨b,0,none⟩:Addr).add j)=some u:=by
  intro j u hj;rw[show((⟨b,0,none⟩:Addr).add j)=⟨b,0+j,none⟩ from by unfold Addr.add;split<;>simp_all];rw[cell_of_row _ _ _ _ _ _ h,Nat.zero_add];simpa using hj
 have h1:∀u∈bh news,u.oneCell'=true:=by
  intro u hu;unfold bh at hu;obtain⟨d,_,hd⟩:=List.mem_flatMap.1 hu;simp[Bd.cells] at hd
  rcases hd with rfl|rfl|rfl|rfl<;>rfl
 have hm:(bs.length+news.length)*32≤200000*32:=Nat.mul_le_mul (by omega) (Nat.le_refl _);obtain⟨v',w',hrun,h2,h3,_,h5⟩:=run_append_own_at (P:=prog) w base 59 ty 65 i0 _ 4 32 underlying59 hi hz0 hz1 hz2 rfl (by decide) v _ _ hown ⟨b,0,none⟩ news.length news.length (bh news) (cU _) hnews h1 (by unfold maxLen;omega) (by omega) hb;refine⟨v',w',hrun,by rw[List.length_append,dI];exact h2,(Below.refl base w).grown h3 hb (fun q e=>?_),fun k cs t f hk ht=>?_⟩
 ·rcases hown.2 with ⟨e1,_⟩|⟨g1,cp',cu,e1,hge,hh,_⟩
  ·rw[e1] at e;simp[Value.ownBlock] at e
  ·rw[e1] at e
   simp only[Value.ownBlock,Option.some.injEq] at e;omega
 ·rw[h3.block k (lt_of_block hk) ?_]
  ·exact hk
  ·intro e
   rcases hown.2 with ⟨e1,_⟩|⟨g,cap,cur,e1,_,hgb,_⟩
   ·rw[e1] at e;cases e
   ·rw[e1] at e
    simp only[Value.ownBlock,Option.some.injEq] at e;subst e;rw[hk] at hgb;cases hgb;exact ht rfl
def vt (p:Nat):List Bd:=[(⟨0,(p:Int)+1,100000,0⟩:Bd),⟨(p:Int)+1,0,0,0⟩]
def Ba (F:Fld) (l s:Nat):Bd:=⟨eE F ((l:Int)+1) (s:Int),eE F (l:Int) (s:Int),0,0⟩
structure NJ (w:World) (x:FV) (F:Fld) (v:Value) (bs:List Bd) (W:World):Prop where
 own:W.ownsRow w.heap.size 65 4 v bs.length (bh bs)
 b:Below w.heap.size w W
 k:W.heap[w.heap.size]?=some (.cells (x.arr F) 27 (0,0))
theorem NJ.lt {w:World} {x:FV} {F:Fld} {v:Value} {bs:List Bd} {W:World} (h:NJ w x F v bs W):w.heap.size<W.heap.size:=lt_of_block h.k
theorem NJ.next {w:World} {x:FV} {F:Fld} {v:Value} {bs:List Bd} {W W':World} (h:NJ w x F v bs W) (hb:Below W.heap.size W W'):NJ w x F v bs W' :=
 ⟨av h.own (fun g hg=>hb.block g (jh h.own hg).1),bB h.b hb,ac hb h.lt h.k⟩
theorem NJ.more {w:World} {x:FV} {F:Fld} {v v':Value} {bs news:List Bd} {W W':World} (h:NJ w x F v bs W) (h1:W'.ownsRow w.heap.size 65 4 v' (bs++news).length (bh (bs++news))) (h2:Below w.heap.size W W')
 (h3:∀(k:Nat) (cs:Array Value) (t:TypeId) (f:Nat×Nat),W.heap[k]?=some (.cells cs t f)→t≠65→W'.heap[k]?=some (.cells cs t f)):NJ w x F v' (bs++news) W' :=
 ⟨h1,h.b.trans h2,h3 _ _ _ _ h.k (by decide)⟩
theorem jP {α:Type} (f:Nat→List α) (k:Nat):(List.range (k+1)).flatMap f=(List.range k).flatMap f++f k:=by rw[List.range_succ,List.flatMap_append];simp
theorem uj (k:Nat):(bh (vt k)).toArray=#[.int .i64 0,.int .i64 ((k:Int)+1),.int .i64 100000,.int .i64 0,.int .i64 ((k:Int)+1),.int .i64 0,.int .i64 0,.int .i64 0]:=rfl
theorem sy (k:Nat):((List.range k).flatMap vt).length=2*k:=by
 induction k with
 | zero=>rfl
 | succ k ih=>rw[jP,List.length_append,ih];show _+2=_;omega
def iR (F:Fld) (k:Nat):List Bd:=((List.range (F.lms.length*F.sts.length)).flatMap vt)++(List.range k).flatMap (lc F)
def jz (F:Fld) (k s:Nat):List Bd:=iR F k++(List.range s).map fun(s:Nat)=>Ba F k s
theorem Af (F:Fld):fF F=iR F (F.lms.length-1):=rfl
theorem ul (F:Fld) (k:Nat):jz F k 0=iR F k:=by simp[jz]
theorem uu (F:Fld) (k s:Nat):jz F k s++[Ba F k s]=jz F k (s+1):=by simp[jz,List.range_succ]
theorem xR (F:Fld) (k:Nat):jz F k F.sts.length=iR F (k+1):=by
 unfold jz iR;rw[jP,List.append_assoc]
 rfl
theorem xZ (F:Fld) (k:Nat):(iR F k).length=2*(F.lms.length*F.sts.length)+k*F.sts.length:=by
 unfold iR;rw[List.length_append,sy,kf]
theorem xn (F:Fld) (k s:Nat):(jz F k s).length=2*(F.lms.length*F.sts.length)+k*F.sts.length+s:=by
 unfold jz
 rw[List.length_append,xZ];simp
theorem vw (w:World) (x:FV) (F:Fld) (hF:F.check=0) :
 Calls prog 218 #[x.val F] w fun e w'=>(∃v,e=.returned v∧w'.ownsRow w.heap.size 65 4 v (fF F).length (bh (fF F)))∧Below w.heap.size w w':=by
 have hl:=(bb hF).2.1;have hs:=(bb hF).1;have hm:=kX hF;obtain⟨n,hn⟩:=ag (F.lms.length*F.sts.length)
 have hP:F.points=(n:Int)+1:=by unfold Fld.points;rw[←hn];push_cast;omega
 have HPT:=aa (fun W=>oH W x F (by omega) (by omega));rw[hP] at HPT;rw[Af];obtain⟨w0,hw0⟩:∃W,W=w.alloc (.cells (x.arr F) 27):=⟨_,rfl⟩;have J0:=aa (show NJ w x F (.slice none 0 0) [] w0 from⟨World.ownsRow_nil _ _ _ _,by rw[hw0];exact aD,by rw[hw0];exact heap_alloc_new _ _⟩);rw[hn] at hm;have HN:=aa hn;clear hn hP
 unfold FV.val FV.arr at *
 go_enter func218,ntmps218;go_upto_region 1 with fail;rw[←hw0];clear hw0;go_wp2_with fail
 go_loopw [3,4] (fun v p wr=>∃(k:Nat),k≤n∧p=.int .i64 ((k:Int)+1)∧Hid (NJ w x F v ((List.range k).flatMap vt) wr)) (fun _ p _=>n+1-(intOf p).toNat)
 case atStart=>exact⟨0,Nat.zero_le _,rfl,J0⟩
 case round =>
  obtain⟨k,hk,rfl,J⟩:=hrel;obtain⟨wA,rfl⟩:∃z:World,z=wr:=⟨wr,rfl⟩;have kk:=ak J.out.k;unfold FV.arr at kk
  by_cases hlt:k<n
  ·go_wp2_with fail
   refine(HPT.out _).mono ?_;rintro e wB ⟨rfl,hb⟩;have J2:=aa (J.out.next hb);clear hb kk;have own3:=J2.out.own.alloc (.cells (bh (vt k)).toArray 65);obtain⟨v',wC,hrun,ho,hbl,hty⟩:=wy (news:=vt k) own3 (b:=wB.heap.size) (heap_alloc_new _ _) (by rw[sy];omega) (by show 2≤_;omega) (by have:=J2.out.lt;simp;omega) 59;have J3:=aa (NJ.more (J2.out.next ((Below.refl _ _).alloc (Nat.le_refl _) (.cells (bh (vt k)).toArray 65))) ho hbl hty);rw[←jP] at J3;rw[uj] at hrun;have hrun2:(Builtin.append_ #[59,59] 59 #[u3,.slice (some ⟨wB.heap.size,0,none⟩) 2 2]).run prog (wB.alloc (.cells #[.int .i64 0,.int .i64 ((k:Int)+1),.int .i64 100000,.int .i64 0,.int .i64 ((k:Int)+1),.int .i64 0,.int .i64 0,.int .i64 0] 65))=.ok v' wC:=hrun;have HRUN:=aa hrun2;clear hrun hrun2 ho hbl hty own3 J J2;go_wp2_with (at_builtin;refine aN rfl (s:=.tmp 13) (x:=.tmp 18) (t:=59) rfl rfl rfl HRUN.out ?_);go_roundw
   case rel=>exact⟨k+1,by omega,by go_num,J3⟩
   case measure=>simp[intOf];omega
  ·obtain rfl:k=n:=by omega
   go_wp2_with fail;refine(HPT.out _).mono ?_;rintro e wB ⟨rfl,hb⟩;have J2:=aa (J.out.next hb);clear hb kk J;have hJ2:Hid (NJ w x F u3 (iR F 0) wB):=aa (by have:=J2.out;unfold iR;rw[HN.out];simpa using this);clear J2;have kk:=ak hJ2.out.k;unfold FV.arr at kk;go_wp2_with fail
   go_loopw [3,24] (fun v i wr=>∃(k:Nat),k≤F.lms.length-1∧i=.int .i64 (k:Int)∧Hid (NJ w x F v (iR F k) wr)) (fun _ i _=>F.lms.length-1-(intOf i).toNat)
   case atStart=>exact⟨0,Nat.zero_le _,rfl,hJ2⟩
   case round =>
    obtain⟨k,hk2,rfl,J⟩:=hrel;obtain⟨wD,rfl⟩:∃z:World,z=wr:=⟨wr,rfl⟩;clear hJ2 kk;have kk:=ak J.out.k;unfold FV.arr at kk
    by_cases hlt2:k<F.lms.length-1
    ·have hkb:(k:Int)+1≤1000:=by omega
     have hlt3:(k:Int)<(F.lms.length:Int)-1:=by omega
     go_wp2_with fail
     go_loopw [3,30] (fun v i wr=>∃(st:Nat),st≤F.sts.length∧i=.int .i64 (st:Int)∧Hid (NJ w x F v (jz F k st) wr)) (fun _ i _=>F.sts.length-(intOf i).toNat)
     case atStart=>exact⟨0,Nat.zero_le _,rfl,aa (by rw[ul];exact J.out)⟩
     case round =>
      obtain⟨st,hst,rfl,J5⟩:=hrel;obtain⟨wE,rfl⟩:∃z:World,z=wr:=⟨wr,rfl⟩
      by_cases hlt4:st<F.sts.length
      ·have HPA:=aa (fun W=>j8 W x F ((k:Int)+1) (st:Int) (by omega) (by omega) (by omega) (by omega) (by omega))
       have HPB:=aa (fun W=>j8 W x F (k:Int) (st:Int) (by omega) (by omega) (by omega) (by omega) (by omega));have HNA:=aa (show Ba F k st=⟨eE F ((k:Int)+1) (st:Int),eE F (k:Int) (st:Int),0,0⟩ from rfl);unfold FV.val FV.arr at HPA HPB;obtain⟨p,hp⟩:=ag (eE F ((k:Int)+1) (st:Int));obtain⟨q,hq⟩:=ag (eE F (k:Int) (st:Int));rw[hp] at HPA HNA;rw[hq] at HPB HNA;have wk1:IntKind.i64.wrap ((k:Int)+1)=(k:Int)+1:=IntWalk.i64_in _ (by omega);have hklen:k*F.sts.length≤9*12:=Nat.mul_le_mul (by omega) (by omega);clear hp hq J;go_wp2_with fail;have J0:=aa (J5.out.next (Below.refl _ wE).drew);have hS0:Kb [(w.heap.size,.cells #[.slice x.aS F.sts.length x.cS,.slice x.aL F.lms.length x.cL,.slice x.aP F.prs.length x.cP,.slice x.aV F.vrs.length x.cV] 27)] wE.drew:=⟨J0.out.k,trivial⟩;clear J5;refine aJ (S:=Kb [(w.heap.size,.cells #[.slice x.aS F.sts.length x.cS,.slice x.aL F.lms.length x.cL,.slice x.aP F.prs.length x.cP,.slice x.aV F.vrs.length x.cV] 27)]) (last:=100) (by kernel_rfl) ?_;refine aR 0 33 (u3) hS0 ?_;(try simp only[s3]);refine tf 1 34 (.agg #[.slice x.aS F.sts.length x.cS,.slice x.aL F.lms.length x.cL,.slice x.aP F.prs.length x.cP,.slice x.aV F.vrs.length x.cV]) hS0 (fun V hV=>?_) ?_
       ·exact gp rfl rfl hV.1 underlying27 rfl (by kernel_rfl)
       (try simp only[s3]);refine aR 2 35 (.int .i64 ((k:Int))) hS0 ?_;(try simp only[s3]);refine tf 3 36 (.int .i64 ((k:Int)+1)) hS0 (fun V hV=>?_) ?_
       ·simp[go_sem,execOp,wk1]
       (try simp only[s3]);refine aR 4 37 (.int .i64 ((st:Int))) hS0 ?_;(try simp only[s3]);refine tf 6 39 (.agg #[.slice x.aS F.sts.length x.cS,.slice x.aL F.lms.length x.cL,.slice x.aP F.prs.length x.cP,.slice x.aV F.vrs.length x.cV]) hS0 (fun V hV=>?_) ?_
       ·exact gp rfl rfl hV.1 underlying27 rfl (by kernel_rfl)
       (try simp only[s3]);refine aR 7 40 (.int .i64 ((k:Int))) hS0 ?_;(try simp only[s3]);refine aR 8 41 (.int .i64 ((st:Int))) hS0 ?_;(try simp only[s3]);refine ae 5 rfl (by kernel_rfl) (fun K hK=>?_);go_simp;go_at_call 139;refine(HPA.out _).mono ?_;rintro e z1 ⟨rfl,hb1⟩;have hS1:=hS0.next hb1;have J1:=aa (J0.out.next hb1);clear hb1 J0;go_wp2_with fail;refine hK.out _ _ (.inr hS1) ?_;clear hK K;(try simp only[Act.put,s3]);refine ae 9 rfl (by kernel_rfl) (fun K hK=>?_);go_simp;go_at_call 139;refine(HPB.out _).mono ?_;rintro e z2 ⟨rfl,hb2⟩;have hS2:=hS1.next hb2;have J2:=aa (J1.out.next hb2);clear hb2 J1;go_wp2_with fail;refine hK.out _ _ (.inr hS2) ?_;clear hK K;(try simp only[Act.put,s3]);refine aR 10 43 (.agg #[.int .i64 p,.int .i64 q,.int .i64 0,.int .i64 0]) hS2 ?_;(try simp only[s3]);refine ae 11 rfl (by kernel_rfl) (fun K hK=>?_);refine Eq.mpr (if_pos (by kernel_rfl)) ?_;go_simp;have hS3:=hS2.next ((Below.refl _ z2).alloc (Nat.le_refl _) (.cells #[.int .i64 p,.int .i64 q,.int .i64 0,.int .i64 0] 65));obtain⟨v2,z4,hrun,ho,hbl,hty⟩:=wy (news:=[⟨p,q,0,0⟩]) (J2.out.own.alloc (.cells #[.int .i64 p,.int .i64 q,.int .i64 0,.int .i64 0] 65)) (b:=z2.heap.size) (heap_alloc_new _ _) (by rw[xn,HN.out];omega) (by simp) (by have:=J2.out.lt;simp;omega) 59;have J4:=aa (NJ.more (J2.out.next ((Below.refl _ _).alloc (Nat.le_refl _) (.cells #[.int .i64 p,.int .i64 q,.int .i64 0,.int .i64 0] 65))) ho hbl hty);have hS4:Kb [(w.heap.size,.cells #[.slice x.aS F.sts.length x.cS,.slice x.aL F.lms.length x.cL,.slice x.aP F.prs.length x.cP,.slice x.aV F.vrs.length x.cV] 27)] z4:=⟨hty _ _ _ _ hS3.1 (by decide),trivial⟩;have HRUN:=aa hrun;clear hrun ho hbl hty;refine hK.out _ _ (.inr hS3) ?_;clear hK K;(try simp only[Act.put,s3]);refine ae 12 rfl (by kernel_rfl) (fun K hK=>?_);refine oA rfl (s:=.tmp 33) (x:=.tmp 44) (t:=59) rfl rfl rfl HRUN.out ?_;refine hK.out _ _ (.inr hS4) ?_;clear hK K;(try simp only[Act.put,sA]);refine aR 13 3 (v2) hS4 ?_;(try simp only[s3]);refine aw (by kernel_rfl) ?_ _;rw[←HNA.out,uu] at J4;go_wp2_with fail;go_roundw
       case rel=>exact⟨st+1,by omega,by go_num,J4⟩
       case measure=>simp[intOf];omega
      ·obtain rfl:st=F.sts.length:=by omega
       have J6:Hid (NJ w x F u3 (iR F (k+1)) wE):=aa (by rw[←xR];exact J5.out);clear J J5 kk;go_wp2_with fail;go_roundw
       case rel=>exact⟨k+1,by omega,by go_num,J6⟩
       case measure=>simp[intOf];omega
    ·obtain rfl:k=F.lms.length-1:=by omega
     go_wp2_with fail;go_ret;exact⟨⟨_,rfl,J.out.own⟩,J.out.b⟩
def jm (F:Fld):List Bd:=if F.check=0 then fF F else[]
theorem tK (w:World) (x:FV) (F:Fld) (h:FldAt w x F) :
 Calls prog 145 #[x.val F] w fun e w'=>(∃v,e=.returned (.tuple #[v,.int .i64 F.check])∧w'.ownsRow w.heap.size 65 4 v (jm F).length (bh (jm F)))∧Below w.heap.size w w':=by
 obtain⟨w0,hw0⟩:∃W,W=w.alloc (.cells (x.arr F) 27):=⟨_,rfl⟩;have B0:=aa (show Below w.heap.size w w0 by rw[hw0];exact aD);have X0:=aa (show Kb [(w.heap.size,.cells (x.arr F) 27)] w0 by rw[hw0];exact Kb.alloc trivial);have HCF:=aa (fZ w0 x F (h.below B0.out));have HNT:=aa (fun(q:F.check=0) W=>vw W x F q);obtain⟨L,hL⟩:=ag (jm F);rw[hL];unfold jm at hL;obtain⟨z,hz⟩:=ag F.check;rw[hz] at HCF HNT hL ⊢;clear hz h;have kk:=ak X0.out.1
 unfold FV.val FV.arr at *
 go_enter func145,ntmps145;go_upto_region 1 with fail;rw[←hw0];clear hw0;go_wp2_with fail;refine HCF.out.mono ?_;rintro e w1 ⟨rfl,hb1⟩;have X1:=aa (X0.out.next hb1);have B1:=bU B0 hb1;clear hb1 HCF X0 kk
 by_cases h0:z=0
 rotate_left
 ·rw[if_neg h0] at hL
  have hzb:(z != 0)=true:=by simpa using h0
  subst hL;clear h0;go_wp2_with fail;go_ret2;exact⟨⟨_,rfl,fI _ _⟩,B1.out⟩
 subst h0;rw[if_pos rfl] at hL;subst hL;have kk:=ak X1.out.1;go_wp2_with fail;refine(HNT.out trivial _).mono ?_;rintro e w3 ⟨⟨v,rfl,hv⟩,hb3⟩;have HV:=aa hv;have HB3:=aa hb3;clear hv hb3 kk;go_wp2_with fail;go_ret2;refine⟨⟨_,rfl,?_⟩,bB B1.out HB3.out⟩;obtain⟨h1,h2|⟨g,cp,cur,e1,e2,e3⟩⟩:=HV.out
 ·exact⟨h1,.inl h2⟩
 ·exact⟨h1,.inr ⟨g,cp,cur,e1,Nat.le_trans B1.out.size e2,e3⟩⟩
theorem fK (n a b:Int) (w:World):Calls prog 102 #[.int .i64 n,.int .i64 a,.int .i64 b] w fun e w'=>e=.returned (.bool (bm n a b))∧w=w':=by
 unfold bm;go_enter func102,ntmps102;go_wp2
 all_goals go_ret
 all_goals refine⟨?_,rfl⟩
 all_goals simp[*]
 omega
theorem zX {n a b:Int} {r:Bool} (h:bm n a b=r) (w:World):Calls prog 102 #[.int .i64 n,.int .i64 a,.int .i64 b] w fun e w'=>e=.returned (.bool r)∧w=w':=h▸fK n a b w
theorem tx (s:ByteArray) (w:World) (hs:s.size≤9223372036854775807) :
 Calls prog 224 #[.string s] w fun e w'=>e=.returned (.bool (bI s))∧w=w':=by
 obtain⟨P,hP⟩:=ag (bI s);rw[hP]
 by_cases h1:bm s.size 1 24=true
 ·have hsz:1≤s.size∧s.size≤24:=by unfold bm at h1;simp at h1;omega
  have hin:=fun W=>zX (n:=s.size) (a:=1) (b:=24) h1 W
  have h0:=zK s 0 (by omega);have HP:Hid ((iU s[0]&&s.data.toList.all dG)=P):=aa (by rw[←hP];unfold bI;rw[h0];simp[hsz]);have HIN:=aa hin;obtain⟨hz1,hz2⟩:=hsz;clear h1 hin hP h0
  by_cases hlow:iU s[0]=true
  ·have hb:97≤s[0].toNat∧s[0].toNat≤122:=by unfold iU at hlow;simpa using hlow
   have d1:decide ((s[0].toNat:Int)<97)=false:=by simp;omega
   have d2:decide ((s[0].toNat:Int)>122)=false:=by simp;omega
   have HL:=aa hlow;clear hlow hb;go_enter func224,ntmps224;go_wp2_with fail;refine(HIN.out _).mono ?_;rintro e w1 ⟨rfl,rfl⟩;go_wp2_with fail
   go_loop [21] (fun i=>∃k:Nat,k≤s.size∧i=.int .i64 k∧Hid ((s.data.toList.take k).all dG=true)) (fun i=>s.size-(intOf i).toNat)
   case atStart=>exact⟨0,Nat.zero_le _,rfl,aa rfl⟩
   case round =>
    obtain⟨k,hk,rfl,HA⟩:=hrel
    by_cases hlt:k<s.size
    ·have HS:=aa (ua s k hlt)
     clear d1 d2
     by_cases g:s[k].toNat=45
     ·have gb:((s[k].toNat:Int) != 45)=false:=by simp;omega
      go_wp2
      all_goals first
       | (go_ret
          have hn:dG s[k]=false:=by rw[←Bool.not_eq_true,dM];omega
          obtain rfl:false=P:=by rw[←HP.out,kL (l:=s.data.toList) (k:=k) (by simpa using hlt) rfl hn,Bool.and_false]
          exact⟨rfl,rfl⟩)
       | (have hn:dG s[k]=true:=by rw[dM];omega
          go_round
          case rel=>exact⟨k+1,by omega,by go_num,aa (by rw[HS.out,List.all_append,HA.out];simp[hn])⟩
          case measure=>simp[intOf];omega)
     ·have gb:((s[k].toNat:Int) != 45)=true:=by simp;omega
      go_wp2
      all_goals first
       | (go_ret
          have hn:dG s[k]=false:=by rw[←Bool.not_eq_true,dM];omega
          obtain rfl:false=P:=by rw[←HP.out,kL (l:=s.data.toList) (k:=k) (by simpa using hlt) rfl hn,Bool.and_false]
          exact⟨rfl,rfl⟩)
       | (have hn:dG s[k]=true:=by rw[dM];omega
          go_round
          case rel=>exact⟨k+1,by omega,by go_num,aa (by rw[HS.out,List.all_append,HA.out];simp[hn])⟩
          case measure=>simp[intOf];omega)
    ·have hall:s.data.toList.all dG=true:=by have:=HA.out;rwa [List.take_of_length_le (by simp;omega)] at this
     obtain rfl:true=P:=by rw[←HP.out,hall,HL.out];rfl
     clear hall;go_wp2_with fail;go_ret;exact⟨rfl,rfl⟩
  ·obtain rfl:false=P:=by rw[←HP.out];simp[hlow]
   have hb:¬(97≤s[0].toNat∧s[0].toNat≤122):=by rw[←pG];exact hlow
   clear hlow HP
   by_cases g:s[0].toNat<97
   ·have d1:decide ((s[0].toNat:Int)<97)=true:=by simp;omega
    clear hb;go_enter func224,ntmps224;go_wp2_with fail;refine(HIN.out _).mono ?_;rintro e w1 ⟨rfl,rfl⟩;go_wp2_with fail;go_ret;exact⟨rfl,rfl⟩
   ·have d1:decide ((s[0].toNat:Int)<97)=false:=by simp;omega
    have d2:decide ((s[0].toNat:Int)>122)=true:=by simp;omega
    clear hb;go_enter func224,ntmps224;go_wp2_with fail;refine(HIN.out _).mono ?_;rintro e w1 ⟨rfl,rfl⟩;go_wp2_with fail;go_ret;exact⟨rfl,rfl⟩
 ·have h1':bm s.size 1 24=false:=by simpa using h1
  have HIN:=aa (fun W=>zX (n:=s.size) (a:=1) (b:=24) h1' W)
  obtain rfl:false=P:=by
   rw[←hP];unfold bI;unfold bm at h1
   simp at h1
   by_cases g:1≤s.size
   ·simp[show ¬s.size≤24 by omega]
   ·simp[show ¬1≤s.size by omega]
  clear h1 h1' hP;go_enter func224,ntmps224;go_wp2_with fail;refine(HIN.out _).mono ?_;rintro e w1 ⟨rfl,rfl⟩;go_wp2_with fail;go_ret;exact⟨rfl,rfl⟩
def Rcd.vals (r:Rcd):Array Value:=#[.int .i64 r.id,.int .i64 r.day,.string r.deed,.int .i64 r.year,.int .i64 r.rank,.int .u8 r.call.kind,.int .i64 r.call.limit,.int .i64 r.call.other,.int .i64 r.call.fr,.int .i64 r.call.tt,.int .i64 r.call.sz,.int .i64 r.call.er,.int .i64 r.call.crs.bearing,.int .i64 r.call.crs.needle,.int .i64 r.call.crs.links,.int .i64 r.call.crs.year,.int .i64 r.call.crs.wear,.int .i64 r.call.crs.slack]
def Rcd.cells (r:Rcd):List Value:=r.vals.toList
abbrev cI:=RecsAt 18 Rcd.cells
theorem vA (r:Rcd) (hd:r.deed.size≤9223372036854775807) (w:World):Calls prog 146 #[.agg r.vals] w fun e w'=>e=.returned (.bool r.right)∧Below w.heap.size w w':=by
 have H1:=aa (fun W=>fK r.id 1 1000000 W);have H2:=aa (fun W=>fK r.day 0 100000 W);have H3:=aa (fun W=>tx r.deed W hd);have H4:=aa (fun W=>fK r.year 1 3000 W);have H5:=aa (fun W=>fK r.rank 0 1000 W);unfold Rcd.right;obtain⟨w0,hw0⟩:∃W,W=w.alloc (.cells r.vals 50):=⟨_,rfl⟩;have B0:=aa (show Below w.heap.size w w0 by rw[hw0];exact aD);have X0:=(show w0.heap[w.heap.size]?=some (.cells r.vals 50 (0,0)) by rw[hw0];exact heap_alloc_new _ _);have kk:=ak X0;unfold Rcd.vals at kk;obtain⟨p1,hp1⟩:=ag (bm r.id 1 1000000);obtain⟨p2,hp2⟩:=ag (bm r.day 0 100000);obtain⟨p3,hp3⟩:=ag (bI r.deed);obtain⟨p4,hp4⟩:=ag (bm r.year 1 3000);obtain⟨p5,hp5⟩:=ag (bm r.rank 0 1000);rw[hp1] at H1 ⊢;rw[hp2] at H2 ⊢;rw[hp3] at H3 ⊢;rw[hp4] at H4 ⊢;rw[hp5] at H5 ⊢;clear hp1 hp2 hp3 hp4 hp5 X0;cases p1
 rotate_left
 cases p2
 rotate_left
 cases p3
 rotate_left
 cases p4
 rotate_left
 all_goals
  go_enter func146,ntmps146;go_upto_region 1 with fail;rw[←hw0];clear hw0;go_wp2_with (first|(go_at_call 102;(first|with_reducible refine(H1.out _).mono ?_|with_reducible refine(H2.out _).mono ?_|with_reducible refine(H4.out _).mono ?_|with_reducible refine(H5.out _).mono ?_);rintro e w1 ⟨rfl,rfl⟩)|(go_at_call 224;refine(H3.out _).mono ?_;rintro e w1 ⟨rfl,rfl⟩));go_ret;exact⟨by simp,B0.out⟩
end Go.Proofs.YtkhemfnlflbniaaGreatDoor
namespace Go.Proofs.YtkhemfnlflbniaaGreatDoor
theorem vz {bs:List Bd} {l:List Int} (h:bO bs.length l=true):Over bs (l.map (dg bs)):=by
 intro x hx;obtain⟨i,hi,rfl⟩:=List.mem_map.1 hx;unfold bO at h;rw[Bool.not_eq_true',List.any_eq_false] at h;have:=h i hi;simp only[Bool.not_eq_true',Bool.not_eq_false] at this;rw[dZ] at this;unfold dg;rw[List.getD_eq_getElem?_getD,List.getElem?_eq_getElem (by omega)];exact List.getElem_mem _
theorem pU:∀{a b:List Int},a.Nodup→(∀x∈a,x∈b)→a.length≤b.length
 | [],_,_,_=>Nat.zero_le _
 | x::a,b,ha,hs=>by
   have hx:=hs x (List.mem_cons_self ..);have ha2:=List.nodup_cons.1 ha
   have:=pU (a:=a) (b:=b.erase x) ha2.2 fun z hz=>by
    refine(List.mem_erase_of_ne ?_).2 (hs z (List.mem_cons_of_mem _ hz));intro e;subst e;exact ha2.1 hz
   rw[List.length_erase_of_mem hx] at this;have:0<b.length:=List.length_pos_of_mem hx;rw[List.length_cons];omega
theorem oK {F:Fld} {l:List Rcd} (h:cX F l) (ha:bi F l=true) {a b:Nat} (h1:a<bj F) (h2:b<bj F) :
 kJ (bj F) (aj F l) a b=(dA (bj F) (aj F l) a b,0)∧(dA (bj F) (aj F l) a b).length≤bj F∧bO (aj F l).length (dA (bj F) (aj F l) a b)=true ∧
 Walk (a:Int) (b:Int) ((dA (bj F) (aj F l) a b).map (dg (aj F l)))∧Over (aj F l) ((dA (bj F) (aj F l) a b).map (dg (aj F l)))∧aU ((dA (bj F) (aj F l) a b).map (dg (aj F l)))=aF (bj F) (aj F l) a b:=by
 have T:=zk h ha;obtain⟨t,ht,H⟩:=T.net;have f:=T.fin a b h1 h2;obtain⟨p1,p2,p3,p4⟩:=zv H ht h1 h2 f;refine⟨?_,p1,p2,p3,vz p2,p4⟩
 have k:bc (bj F) (aj F l) [(a:Int),(b:Int)]=0:=by
  rw[kV h (by simp;omega),if_pos ha]
 unfold aC at f;unfold kJ;rw[if_pos k];simp only[Int.toNat_natCast];rw[if_neg (by omega)]
theorem mV {F:Fld} {l:List Rcd} (h:cX F l) (ha:bi F l=false) :
 ∃c,bS (bj F) (aj F l)=(c,true,0)∧bO (aj F l).length c=true∧c.length≤bj F∧∃a,Walk a a (c.map (dg (aj F l)))∧Over (aj F l) (c.map (dg (aj F l)))∧aU (c.map (dg (aj F l)))<0:=by
 have hN:=(iC h.fld).2;have hv:=lL h
 have hns:∀b∈aj F l,b.src≠b.dst:=fun b hb=>(kW.1 (vy h b hb)).2.2.1
 have ho:aG (bj F) (aj F l)=none:=by
  unfold bi mB at ha
  cases e:aG (bj F) (aj F l) with
  | none=>rfl
  | some t=>rw[e] at ha;cases ha
 obtain⟨c,c1,c2,c3⟩:=vC hN hv hns ho;have k:=(ig hN hv).1 c2;refine⟨c,?_,k.2.1,?_,_,k.2.2.2.1,gl k.2.1,k.2.2.2.2⟩
 ·unfold bS
  rw[if_neg (by rw[ez h];simp),ho,if_neg (by simp)];simp only[Int.toNat_natCast];rw[c1]
 ·have hd:=k.2.2.1
  have:=pU (b:=(List.range (bj F)).map fun i:Nat=>(i:Int)) hd fun x hx=>by
   unfold mi at hx;obtain⟨i,hi,rfl⟩:=List.mem_map.1 hx;have hm:dg (aj F l) i∈aj F l:=gl k.2.1 _ (List.mem_map.2 ⟨i,hi,rfl⟩);obtain⟨v1,v2,_⟩:=hv _ hm;exact List.mem_map.2 ⟨(dg (aj F l) i).src.toNat,List.mem_range.2 (by omega),by omega⟩
  simpa [mi] using this
def bytes (l:List UInt8):ByteArray:=⟨l.toArray⟩
def aH:Fld:=⟨[⟨bytes [97,115,104],0⟩,⟨bytes [111,97,107],1000⟩,⟨bytes [101,108,109],2000⟩],[bytes [100,121,107,101],bytes [98,117,114,110]],[⟨bytes [99,114,111,102,116],0,0,2⟩],[]⟩
def yO:ByteArray:=bytes [115,109,105,116,104]
def heldL:List Rcd:=[⟨1,0,yO,1800,0,⟨1,0,0,0,0,200,10,crs0⟩⟩,⟨2,0,yO,1800,0,⟨5,0,0,0,1,50,5,crs0⟩⟩,⟨3,0,yO,1800,0,⟨2,0,1,1,0,300,0,crs0⟩⟩]
theorem ux:cm aH heldL=(0,0):=by decide +kernel
theorem oo:bi aH heldL=true:=by decide +kernel
theorem sD:jn aH heldL 0 1=(235,265,0):=by decide +kernel
theorem vV:lS aH heldL 0 0 1 1=(345,355,0):=by decide +kernel
theorem uZ:jW aH heldL 0 1 265 300=(1,0):=by decide +kernel
theorem uT:iP aH heldL 0 1 200 300=((35,30,35),0):=by decide +kernel
theorem ya:ma aH heldL 0 1=(265,535,0):=by decide +kernel
def heldM:List Rcd:=heldL++[⟨4,0,bytes [106,111,110,101,115],1700,0,⟨1,0,0,1,0,100,0,crs0⟩⟩]
def heldN:List Rcd:=heldL++[⟨4,0,bytes [106,111,110,101,115],1700,0,⟨1,0,0,1,0,250,40,crs0⟩⟩]
theorem om:cm aH heldM=(0,0)∧cm aH heldN=(0,0):=by constructor<;>decide +kernel
theorem oW:bi aH heldM=false∧bi aH heldN=true:=by constructor<;>decide +kernel
theorem zG:fA aH heldN 4=true:=by decide +kernel
theorem lC:fA aH heldN 1=false∧fA aH heldN 2=false∧fA aH heldN 3=false:=by refine⟨?_,?_,?_⟩<;>decide +kernel
theorem o9:kJ (bj aH) (aj aH heldL) 0 5=([15,17,19],0)∧([15,17,19]:List Int).map (fun i=>(dg (aj aH heldL) i).rcd)=[1,2,3]:=by constructor<;>decide +kernel
theorem sf:bS (bj aH) (aj aH heldM)=([16,21,18],true,0)∧([16,21,18]:List Int).map (fun i=>(dg (aj aH heldM) i).rcd)=[1,4,2]:=by constructor<;>decide +kernel
theorem xI {l:List Rcd} {i:Nat} {r:Rcd} (h:r.right=true) {last:Int} (hlast:last=if i=0 then 0 else(l.getD (i-1) A8).id):(decide (0<i)&&decide (r.id≤(l.getD (i-1) A8).id))=decide (r.id≤last):=by
 have:=gU h
 by_cases q:i=0
 ·subst q
  rw[if_pos rfl] at hlast;subst hlast;simp;omega
 ·rw[if_neg q] at hlast
  subst hlast
  have:0<i:=by omega
  simp[this]
end Go.Proofs.YtkhemfnlflbniaaGreatDoor
namespace Go.Proofs.YtkhemfnlflbniaaGreatDoor
open Go Go.RowKit Go.Shelf Tryz
theorem kH {W:World} {g o:Nat} {cs:Array Value} {xs:List Value} {t:TypeId} {f:Nat×Nat} (h:W.heap[g]?=some (.cells cs t f)) (e:cs.toList.drop o=xs):W.rangeAt g o xs:=by
 intro j v hv;rw[cell_of_row _ _ _ _ _ _ h,←hv,←e,List.getElem?_drop];simp
theorem jw {W:World} {b off k:Nat} {r:Rcd} (hc:∀j,j<18→W.cell? ⟨b,off+k*18+j,none⟩=r.cells[j]?):W.rangeAt b (off+k*18) r.vals.toList:=by
 intro j v hv;have hj:j<18:=(List.getElem?_eq_some_iff.1 hv).1
 rw[hc j hj];exact hv
theorem zO {w:World} {base base2:Nat} {v v2:Value} {bs news:List Bd} (hown:w.ownsRow base 65 4 v bs.length (bh bs)) (h2:w.ownsRow base2 65 4 v2 news.length (bh news)) (hne:news≠[]) (hx:bs.length≤100000) (hn:news.length≤100000) (hb:base≤w.heap.size) (ty:TypeId) :
 ∃v' w',(Builtin.append_ #[59,59] ty #[v,v2]).run prog w=.ok v' w'∧w'.ownsRow base 65 4 v' (bs++news).length (bh (bs++news))∧Below base w w' ∧
  (∀(k:Nat) (cs:Array Value) (t:TypeId) (f:Nat×Nat),w.heap[k]?=some (.cells cs t f)→t≠65→w'.heap[k]?=some (.cells cs t f)):=by
 obtain⟨hl2,⟨e1,e2⟩|⟨g,cap,cur,e1,_,hgb,hcap,_,hcs,htk⟩⟩:=h2
 ·exact absurd (List.length_eq_zero_iff.1 e2) hne
 subst e1;obtain⟨i0,hi,hz0,hz1,hz2⟩:=info_parts lR
 have hnews:∀j u,(bh news)[j]?=some u→w.cell? ((⟨g,0,none⟩:Addr).add j)=some u:=by
  intro j u hj;rw[show((⟨g,0,none⟩:Addr).add j)=⟨g,0+j,none⟩ from by unfold Addr.add;split<;>simp_all];rw[cell_of_row _ _ _ _ _ _ hgb,Nat.zero_add]
  have hlt:j<news.length*4:=by rw[←hl2];exact(List.getElem?_eq_some_iff.1 hj).1
  rw[←htk,List.getElem?_take_of_lt hlt] at hj;simpa using hj
 have h1:∀u∈bh news,u.oneCell'=true:=by
  intro u hu;unfold bh at hu;obtain⟨d,_,hd⟩:=List.mem_flatMap.1 hu;simp[Bd.cells] at hd
  rcases hd with rfl|rfl|rfl|rfl<;>rfl
 have hm:(bs.length+news.length)*32≤200000*32:=Nat.mul_le_mul (by omega) (Nat.le_refl _);obtain⟨v',w',hrun,q2,h3,_,h5⟩:=run_append_own_at (P:=prog) w base 59 ty 65 i0 _ 4 32 underlying59 hi hz0 hz1 hz2 rfl (by decide) v _ _ hown ⟨g,0,none⟩ news.length cap (bh news) (cU _) hnews h1 (by unfold maxLen;omega) (by omega) hb;refine⟨v',w',hrun,by rw[List.length_append,dI];exact q2,(Below.refl base w).grown h3 hb (fun q e=>?_),fun k cs t f hk ht=>?_⟩
 ·rcases hown.2 with ⟨e1,_⟩|⟨g1,cp',cu,e1,hge,hh,_⟩
  ·rw[e1] at e;simp[Value.ownBlock] at e
  ·rw[e1] at e
   simp only[Value.ownBlock,Option.some.injEq] at e;omega
 ·rw[h3.block k (lt_of_block hk) ?_]
  ·exact hk
  ·intro e
   rcases hown.2 with ⟨e1,_⟩|⟨g2,cap2,cur2,e1,_,hgb2,_⟩
   ·rw[e1] at e;cases e
   ·rw[e1] at e
    simp only[Value.ownBlock,Option.some.injEq] at e;subst e;rw[hk] at hgb2;cases hgb2;exact ht rfl
theorem AE {F:Fld} {c:Cll} {r:Int} (hF:F.check=0) (hc:dP F c=0):eo F c r≠[]:=by
 obtain⟨n1,n2,n3,n4,n5,n6,n7,n8⟩:=gZ hF hc;unfold eo
 rcases n8 with k|k|k|k|k
 ·rw[if_pos k];simp[eG]
 ·rw[if_neg (by omega),if_pos k];simp[eG]
 ·rw[if_neg (by omega),if_neg (by omega),if_pos k];simp[eG]
 ·rw[if_neg (by omega),if_neg (by omega),if_neg (by omega),if_pos k]
  have:=n6 k;obtain⟨m,hm⟩:∃m,(c.tt-c.fr+1).toNat=m+1:=⟨(c.tt-c.fr).toNat,by omega⟩;intro e;have:=congrArg List.length e;rw[qm,hm] at this;simp at this
 ·rw[if_neg (by omega),if_neg (by omega),if_neg (by omega),if_neg (by omega),if_pos k];simp[eG]
theorem mj {P:Program} {c:Code} {Q:Exit→Act→World→Prop} {a:Act} {w:World} (h:∀W,W=w→c.wp P Q a W):c.wp P Q a w:=h w rfl
def xX (F:Fld) (l:List Rcd):List Bd:=if(cm F l).2=0 then aj F l else[]
theorem uv {F:Fld} {c:Cll} {r:Int} (hF:F.check=0) (h:dP F c=0):(eo F c r).length≤4000:=by
 obtain⟨n1,n2,n3,n4,n5,n6,n7,n8⟩:=gZ hF h;unfold eo
 rcases n8 with k|k|k|k|k
 ·rw[if_pos k];simp[eG]
 ·rw[if_neg (by omega),if_pos k];simp[eG]
 ·rw[if_neg (by omega),if_neg (by omega),if_pos k];simp[eG]
 ·rw[if_neg (by omega),if_neg (by omega),if_neg (by omega),if_pos k]
  have:=n6 k;rw[qm];omega
 ·rw[if_neg (by omega),if_neg (by omega),if_neg (by omega),if_neg (by omega),if_pos k];simp[eG]
theorem vR {w:World} {base n:Nat} {v:Value} {xs:List Value} (h:w.ownsRow base 65 4 v n xs):∃o c,v=.slice o n c:=by
 obtain⟨_,⟨e1,e2⟩|⟨g,cap,cur,e1,_⟩⟩:=h
 ·exact⟨none,0,by rw[e1,e2]⟩
 ·exact⟨_,_,e1⟩
def j9 (F:Fld) (l:List Rcd) (k:Nat):List Bd:=fF F++(l.take k).flatMap (Rcd.bs F)
def fS (l:List Rcd) (k:Nat):Int:=if k=0 then 0 else(l.getD (k-1) A8).id
theorem lB (F:Fld) (l:List Rcd):j9 F l 0=fF F:=by simp[j9]
theorem zw (F:Fld) (l:List Rcd):j9 F l l.length=aj F l:=by unfold j9 aj;rw[List.take_of_length_le (Nat.le_refl _)]
theorem wX (F:Fld) (l:List Rcd) {k:Nat} (h:k<l.length):j9 F l k++l[k].bs F=j9 F l (k+1):=by
 unfold j9
 rw[List.take_succ_eq_append_getElem h,List.flatMap_append,List.append_assoc];simp
theorem mM (l:List Rcd) {k:Nat} (h:k<l.length):fS l (k+1)=l[k].id:=by
 unfold fS;rw[if_neg (by omega)];simp[List.getD_eq_getElem?_getD,h]
theorem y8 {F:Fld} (hF:F.check=0):(fF F).length≤2000:=by
 rw[wH];have:=kX hF;have:(F.lms.length-1)*F.sts.length≤F.lms.length*F.sts.length:=Nat.mul_le_mul (by omega) (Nat.le_refl _);omega
theorem Ab (F:Fld) (l:List Rcd) {k:Nat} (h:k<l.length) (last:Int) (many:Nat) :
 fH F (l.drop k) k last many=if 300≤k then((k:Int),2) else if l[k].right=false∨l[k].id≤last then((k:Int),1) else if l[k].err F≠0 then((k:Int),l[k].err F)
 else if 2000<many+(l[k].bs F).length then((k:Int),2) else fH F (l.drop (k+1)) (k+1) l[k].id (many+(l[k].bs F).length):=by
 rw[List.drop_eq_getElem_cons h];rfl
theorem qY (w:World) (x:FV) (F:Fld) (ar:Option Addr) (cr:Nat) (l:List Rcd) (h:FldAt w x F) (hr:cI w ar l) (hn:l.length≤100000) (hk:∀r∈l,(0≤r.call.kind∧r.call.kind≤255)∧r.deed.size≤9223372036854775807) :
 Calls prog 84 #[x.val F,.slice ar l.length cr] w fun e w'=>(∃v,e=.returned (.tuple #[v,.int .i64 (cm F l).1,.int .i64 (cm F l).2])∧w'.ownsRow w.heap.size 65 4 v (xX F l).length (bh (xX F l)))∧Below w.heap.size w w':=by
 obtain⟨⟨R1,R2⟩,hR⟩:=ag (cm F l);obtain⟨LS,hLS⟩:=ag (xX F l);rw[hR,hLS];unfold xX at hLS;rw[hR] at hLS;have HLS:=aa hLS;unfold cm at hR;obtain⟨w0,hw0⟩:∃W,W=w.alloc (.cells (x.arr F) 27):=⟨_,rfl⟩;have B0:=aa (show Below w.heap.size w w0 by rw[hw0];exact aD);have X0:=(show w0.heap[w.heap.size]?=some (.cells (x.arr F) 27 (0,0)) by rw[hw0];exact heap_alloc_new _ _);have HNT:=aa (tK w0 x F (h.below B0.out));have HF:=aa (fun W (hb:Below w.heap.size w W)=>h.below hb);have HRR:=aa (fun W (hb:Below w.heap.size w W)=>hr.below hb (Nat.le_refl _));have HK:=aa hk;have HNL:=aa hn;have JX:=aa (fun W (hb:Below w0.heap.size w0 W) v (q:W.ownsRow w0.heap.size 65 4 v (fF F).length (bh (fF F)))=>(⟨q.mono B0.out.size,bB B0.out hb,ac hb (lt_of_block X0) X0⟩:NJ w x F v (fF F) W));have HLZ:=aa (show(jm F)=if F.check=0 then fF F else[] from rfl);obtain⟨z,hz⟩:=ag F.check;have HZ:=aa hz;rw[hz] at HNT hR HLZ;obtain⟨NL,hNL⟩:=ag (jm F);rw[hNL] at HNT HLZ;clear hz hNL hn hk hr h hLS;have kk:=ak X0
 unfold FV.val FV.arr at *
 go_enter func84,ntmps84;go_upto_region 1 with fail;rw[←hw0];clear hw0;go_wp2_with fail;refine HNT.out.mono ?_;rintro e w1 ⟨⟨v,rfl,hv⟩,hb1⟩
 by_cases h0:z=0
 rotate_left
 ·rw[if_pos h0] at hR
  have hzb:(z != 0)=true:=by simpa using h0
  cases hR;have hL:=HLS.out;rw[if_neg h0] at hL;subst hL;have hB1:=aa hb1;clear h0 hv hb1 kk X0;go_wp2_with fail;refine bodyPost_ret (by simp[results,results84,go_sem]) rfl ⟨⟨_,rfl,fI _ _⟩,bB B0.out hB1.out⟩
 subst h0;rw[if_neg (by simp)] at hR;have hL:=HLZ.out;rw[if_pos rfl] at hL;subst hL;have J1:=aa (JX.out w1 hb1 v hv);have HR:=aa hR;clear hb1 hv hR kk X0 JX HLZ HNT B0;go_wp2_with fail
 go_loopw [7,24] (fun v p wr=>∃(k:Nat),k≤l.length∧p=.int .i64 (k:Int)∧Hid (NJ w x F v (j9 F l k) wr)∧Hid (fH F (l.drop k) k (fS l k) (j9 F l k).length=(R1,R2))∧Hid ((j9 F l k).length≤2000)) (fun _ p _=>l.length-(intOf p).toNat)
 case atStart=>exact⟨0,Nat.zero_le _,rfl,by rw[lB];exact J1,by rw[lB];exact HR,by rw[lB];exact aa (y8 HZ.out)⟩
 case round =>
  obtain⟨k,hk,rfl,J,HG,H2⟩:=hrel;clear J1 HR;obtain⟨wA,rfl⟩:∃z:World,z=wr:=⟨wr,rfl⟩
  by_cases hlt:k<l.length
  ·have hG:=HG.out
   rw[Ab F l hlt] at hG;have HTK:=aa (wX F l hlt);have HLI:=aa (mM l hlt);have HKK:=aa (HK.out _ (List.getElem_mem hlt));have HBI:=aa (fun(q:l[k].right=true)=>xI (l:=l) (i:=k) q (last:=fS l k) rfl);obtain⟨rb,ro,e1,hbl,hcc⟩:=RecsAt.at (HRR.out wA J.out.b) hlt;have HCC:=aa (jw hcc);obtain⟨r,hr⟩:=ag (l[k]);rw[hr] at HTK HLI HKK HBI hG HCC;have HRE:=aa hr;have hkb:=HKK.out;have HRT:=aa (fun W=>vA r hkb.2 W);have HCL:=aa (fun W (hb:Below w.heap.size w W)=>jA W x F r.call (HF.out W hb) hkb.1);have HBD:=aa (fun W (hb:Below w.heap.size w W)=>tz W x F r.call r.id (HF.out W hb) hkb.1);subst e1;have HNL2:=HNL.out;clear hr hcc HG hkb;go_upto_region 6 with fail;refine wp_region_list ?_;go_upto_region 7 with (first|(refine wpList_load_mid rfl 50 _ rfl rb (ro+k*18) rfl _ _ HCC.out underlying50 rfl (by kernel_rfl) ?_)|(refine wpList_store_row rfl 50 _ _ rfl wA.heap.size r.vals rfl rfl 50 _ (heap_alloc_new _ _) (by kernel_rfl) (by kernel_rfl) (by simp[Rcd.vals,Value.oneCell']) ?_;rw[World.setRow_alloc_new]));refine mj ?_;intro W2 hW2
   have hb2:Below wA.heap.size wA W2:=by rw[hW2];exact aD
   have X2:W2.heap[wA.heap.size]?=some (.cells r.vals 50 (0,0)):=by rw[hW2];exact heap_alloc_new _ _
   have J2:=aa (J.out.next hb2);obtain⟨A,hA⟩:=ag wA.heap.size;rw[hA] at X2 ⊢;have hX2:=aa X2;clear hW2 hb2 J HCC hA
   by_cases g0:300≤k
   ·rw[if_pos g0] at hG
    cases hG;have hL:=HLS.out;rw[if_neg (by simp)] at hL;subst hL;clear X2;go_wp2_with fail;refine bodyPost_ret (by simp[results,results84,go_sem]) rfl ⟨⟨_,rfl,fI _ _⟩,J2.out.b⟩
   rw[if_neg g0] at hG;go_upto_region 9 with fail;have hkA:=lt_of_block hX2.out
   go_cut [33] (fun t wx=>t=.bool (decide (r.right=false∨r.id≤fS l k))∧Hid (Below W2.heap.size W2 wx))
   case first =>
    have hS0:Below W2.heap.size W2 W2.drew:=(Below.refl _ _).drew
    cases gr:r.right with
    | false =>
      rw[gr] at HRT;refine aJ (S:=Below W2.heap.size W2) (last:=100) (by kernel_rfl) ?_;refine tf 0 34 (.agg r.vals) hS0 (fun V hV=>?_) ?_
      ·exact gp rfl rfl (ac hV (lt_of_block hX2.out) hX2.out) underlying50 rfl (by kernel_rfl)
      (try simp only[s3]);refine ae 1 rfl (by kernel_rfl) (fun K hK=>?_);go_simp;go_at_call 146;refine(HRT.out _).mono ?_;rintro e wq ⟨rfl,hbq⟩;have hSq:Below W2.heap.size W2 wq:=bB hS0 hbq;clear hbq hS0;go_wp2_with fail;refine hK.out _ _ (.inr hSq) ?_;clear hK K;(try simp only[Act.put,s3]);refine aR 2 36 (.bool true) hSq ?_;(try simp only[s3]);refine aR 3 37 (.bool true) hSq ?_;(try simp only[s3]);refine tO 4 38 rfl (by kernel_rfl) rfl (fun _ _ _ h=>h) hSq ?_;(try simp only[s3]);refine tO 5 39 rfl (by kernel_rfl) rfl (fun _ _ _ h=>h) hSq ?_;(try simp only[s3]);refine tO 6 40 rfl (by kernel_rfl) rfl (fun _ _ _ h=>h) hSq ?_;(try simp only[s3]);refine tO 7 41 rfl (by kernel_rfl) rfl (fun _ _ _ h=>h) hSq ?_;(try simp only[s3]);refine tO 8 42 rfl (by kernel_rfl) rfl (fun _ _ _ h=>h) hSq ?_;(try simp only[s3]);refine tO 9 43 rfl (by kernel_rfl) rfl (fun _ _ _ h=>h) hSq ?_;(try simp only[s3]);refine tO 10 44 rfl (by kernel_rfl) rfl (fun _ _ _ h=>h) hSq ?_;(try simp only[s3]);refine tO 11 45 rfl (by kernel_rfl) rfl (fun _ _ _ h=>h) hSq ?_;(try simp only[s3]);refine tO 12 46 rfl (by kernel_rfl) rfl (fun _ _ _ h=>h) hSq ?_;(try simp only[s3]);refine tO 13 47 rfl (by kernel_rfl) rfl (fun _ _ _ h=>h) hSq ?_;(try simp only[s3]);refine tO 14 48 rfl (by kernel_rfl) rfl (fun _ _ _ h=>h) hSq ?_;(try simp only[s3]);refine tO 15 49 rfl (by kernel_rfl) rfl (fun _ _ _ h=>h) hSq ?_;(try simp only[s3]);refine tO 16 50 rfl (by kernel_rfl) rfl (fun _ _ _ h=>h) hSq ?_;(try simp only[s3]);refine aR 17 51 (.bool true) hSq ?_;(try simp only[s3]);refine aR 18 33 (.bool true) hSq ?_;(try simp only[s3]);refine aw (by kernel_rfl) ?_ _;go_wp2_with fail;go_meet;exact⟨by rw[gr];simp,aa hSq⟩
    | true =>
      rw[gr] at HRT;have hid:=gU gr
      by_cases hk00:k=0
      ·have hll:fS l k=0:=by unfold fS;rw[if_pos hk00]
       have hk0:=hk00;have HE:=aa (show false=decide (r.right=false∨r.id≤fS l k) by rw[gr,hll];simp;omega);have HK0:=aa hk0;clear hk00 hk0 hll hid;refine aJ (S:=Below W2.heap.size W2) (last:=100) (by kernel_rfl) ?_;refine tf 0 34 (.agg r.vals) hS0 (fun V hV=>?_) ?_
       ·exact gp rfl rfl (ac hV (lt_of_block hX2.out) hX2.out) underlying50 rfl (by kernel_rfl)
       (try simp only[s3]);refine ae 1 rfl (by kernel_rfl) (fun K hK=>?_);go_simp;go_at_call 146;refine(HRT.out _).mono ?_;rintro e wq ⟨rfl,hbq⟩;have hSq:Below W2.heap.size W2 wq:=bB hS0 hbq;clear hbq hS0;go_wp2_with fail;refine hK.out _ _ (.inr hSq) ?_;clear hK K;(try simp only[Act.put,s3]);refine tf 2 36 (.bool false) hSq (fun V hV=>?_) ?_
       ·simp[go_sem,execOp,HK0.out]
       (try simp only[s3]);refine tf 3 37 (.bool false) hSq (fun V hV=>?_) ?_
       ·simp[go_sem,execOp,HK0.out]
       (try simp only[s3]);refine tf 4 38 (.int .i64 ((k:Int))) hSq (fun V hV=>?_) ?_
       ·simp[go_sem,execOp,HK0.out]
       (try simp only[s3]);refine tf 5 39 (.bool false) hSq (fun V hV=>?_) ?_
       ·simp[go_sem,execOp,HK0.out]
       (try simp only[s3]);refine tf 6 40 (.bool false) hSq (fun V hV=>?_) ?_
       ·simp[go_sem,execOp,HK0.out]
       (try simp only[s3]);refine tO 7 41 rfl (by kernel_rfl) rfl (fun _ _ _ h=>h) hSq ?_;(try simp only[s3]);refine tO 8 42 rfl (by kernel_rfl) rfl (fun _ _ _ h=>h) hSq ?_;(try simp only[s3]);refine tO 9 43 rfl (by kernel_rfl) rfl (fun _ _ _ h=>h) hSq ?_;(try simp only[s3]);refine tO 10 44 rfl (by kernel_rfl) rfl (fun _ _ _ h=>h) hSq ?_;(try simp only[s3]);refine tO 11 45 rfl (by kernel_rfl) rfl (fun _ _ _ h=>h) hSq ?_;(try simp only[s3]);refine tO 12 46 rfl (by kernel_rfl) rfl (fun _ _ _ h=>h) hSq ?_;(try simp only[s3]);refine tO 13 47 rfl (by kernel_rfl) rfl (fun _ _ _ h=>h) hSq ?_;(try simp only[s3]);refine tO 14 48 rfl (by kernel_rfl) rfl (fun _ _ _ h=>h) hSq ?_;(try simp only[s3]);refine tO 15 49 rfl (by kernel_rfl) rfl (fun _ _ _ h=>h) hSq ?_;(try simp only[s3]);refine tf 16 50 (.bool false) hSq (fun V hV=>?_) ?_
       ·simp[go_sem,execOp,HK0.out]
       (try simp only[s3]);refine tf 17 51 (.bool false) hSq (fun V hV=>?_) ?_
       ·simp[go_sem,execOp,HK0.out]
       (try simp only[s3]);refine tf 18 33 (.bool false) hSq (fun V hV=>?_) ?_
       ·simp[go_sem,execOp,HK0.out]
       (try simp only[s3]);refine aw (by kernel_rfl) ?_ _;go_wp2_with fail;go_meet;exact⟨by rw[←HE.out],aa hSq⟩
      ·obtain⟨j,hkj⟩:∃j,k=j+1:=⟨k-1,by omega⟩
       have hjl:j<l.length:=by omega
       obtain⟨pid,hpid⟩:=ag (l[j].id)
       have hll:fS l k=pid:=by subst hkj;exact(mM l hjl).trans hpid
       have HPC:=aa (fun V (hV:Below W2.heap.size W2 V)=>(by
        obtain⟨b',off',e,_,hc⟩:=RecsAt.at (HRR.out V (bB J2.out.b hV)) hjl;cases e
        exact(hc 0 (by decide)).trans (by rw[←hpid];rfl):V.cell? ⟨rb,ro+j*18,none⟩=some (.int .i64 pid)))
       have HE:=aa (show decide (r.id≤pid)=decide (r.right=false∨r.id≤fS l k) by rw[gr,hll];simp)
       have hj:(k:Int)-1=(j:Int):=by omega
       have hwj:IntKind.i64.wrap (j:Int)=(j:Int):=IntWalk.i64_in _ (by omega)
       have hk0:0<k:=by omega
       clear hk00 hll hid hkj hpid;refine aJ (S:=Below W2.heap.size W2) (last:=100) (by kernel_rfl) ?_;refine tf 0 34 (.agg r.vals) hS0 (fun V hV=>?_) ?_
       ·exact gp rfl rfl (ac hV (lt_of_block hX2.out) hX2.out) underlying50 rfl (by kernel_rfl)
       (try simp only[s3]);refine ae 1 rfl (by kernel_rfl) (fun K hK=>?_);go_simp;go_at_call 146;refine(HRT.out _).mono ?_;rintro e wq ⟨rfl,hbq⟩;have hSq:Below W2.heap.size W2 wq:=bB hS0 hbq;clear hbq hS0;go_wp2_with fail;refine hK.out _ _ (.inr hSq) ?_;clear hK K;(try simp only[Act.put,s3]);refine aR 2 36 (.bool false) hSq ?_;(try simp only[s3]);refine aR 3 37 (.bool false) hSq ?_;(try simp only[s3]);refine aR 4 38 (.int .i64 ((k:Int))) hSq ?_;(try simp only[s3]);refine tf 5 39 (.bool true) hSq (fun V hV=>?_) ?_
       ·simp[go_sem,execOp,hk0]
       (try simp only[s3]);refine aR 6 40 (.bool true) hSq ?_;(try simp only[s3]);refine aR 7 41 (.slice (some ⟨rb,ro,none⟩) l.length cr) hSq ?_;(try simp only[s3]);refine aR 8 42 (.int .i64 ((k:Int))) hSq ?_;(try simp only[s3]);refine tf 9 43 (.int .i64 ((j:Int))) hSq (fun V hV=>?_) ?_
       ·simp[go_sem,execOp,hj,hwj]
       (try simp only[s3]);refine tf 10 44 (.pointer (some ⟨rb,ro+j*18,none⟩)) hSq (fun V hV=>?_) ?_
       ·simp[go_sem,execOp,hjl]
       (try simp only[s3]);refine aR 11 45 (.pointer (some ⟨rb,ro+j*18,none⟩)) hSq ?_;(try simp only[s3]);refine tf 12 46 (.int .i64 pid) hSq (fun V hV=>?_) ?_
       ·(have z:=HPC.out V hV;simp[go_sem,execOp,z])
       (try simp only[s3]);refine aR 13 47 (.pointer (some ⟨A,0,none⟩)) hSq ?_;(try simp only[s3]);refine tf 14 48 (.int .i64 r.id) hSq (fun V hV=>?_) ?_
       ·(have z:V.cell? ⟨A,0,none⟩=some (.int .i64 r.id):=ce (i:=0) (ac hV (lt_of_block hX2.out) hX2.out) rfl;simp[go_sem,execOp,z])
       (try simp only[s3]);refine aR 15 49 (.bool (decide (r.id≤pid))) hSq ?_;(try simp only[s3]);refine aR 16 50 (.bool (decide (r.id≤pid))) hSq ?_;(try simp only[s3]);refine aR 17 51 (.bool (decide (r.id≤pid))) hSq ?_;(try simp only[s3]);refine aR 18 33 (.bool (decide (r.id≤pid))) hSq ?_;(try simp only[s3]);refine aw (by kernel_rfl) ?_ _;go_wp2_with fail;go_meet;exact⟨by rw[←HE.out],aa hSq⟩
   case rest =>
   obtain⟨rfl,HB⟩:=hcut;obtain⟨W3,rfl⟩:∃x:World,x=wc:=⟨wc,rfl⟩;have J3:=aa (J2.out.next HB.out);have hX3:=aa (ac HB.out hkA hX2.out);clear HB J2 hX2 X2 hkA HRT;obtain⟨tb,htb⟩:=ag (decide (r.right=false∨r.id≤fS l k));rw[htb];cases tb
   rotate_left
   ·rw[if_pos (of_decide_eq_true htb)] at hG
    cases hG;have hL:=HLS.out;rw[if_neg (by simp)] at hL;subst hL;clear hX3 htb;go_wp2_with fail;refine bodyPost_ret (by simp[results,results84,go_sem]) rfl ⟨⟨_,rfl,fI _ _⟩,J3.out.b⟩
   have g1:=of_decide_eq_false htb;rw[if_neg g1] at hG;clear htb
   have hright:r.right=true:=by
    cases q:r.right
    ·exact absurd (.inl q) g1
    ·rfl
   have hid:=gU hright;have hin:bm r.id 0 1000000=true:=dZ.2 (by omega);have HNE:=aa (fun(q:dp F r.call=0)=>(AE (r:=r.id) HZ.out (gC q).2:r.bs F≠[]));have HLN:=aa (fun(q:dp F r.call=0)=>(uv (r:=r.id) HZ.out (gC q).2:(r.bs F).length≤4000))
   have HBE:dp F r.call=0→ic F r.call r.id=(r.bs F,0):=fun q=>by
    unfold ic
    rw[if_neg (by omega),if_neg (by rw[hin];simp)];rfl
   have hEr:r.err F=if dp F r.call≠0 then dp F r.call else if r.call.kind=3∧r.call.crs.year≠r.year then 1 else 0:=by
    have e:dp F r.call=dP F r.call:=by unfold dp;rw[if_neg (by rw[HZ.out];simp)]
    rw[e];rfl
   have HBE2:=aa (fun(q:dp F r.call=0) W (hb:Below w.heap.size w W)=>(by have:=HBD.out W hb;rw[HBE q] at this;exact this));have HCL2:=HCL.out W3 J3.out.b;obtain⟨z1,hz1⟩:=ag (dp F r.call);rw[hz1] at HNE HLN HBE2 hEr HCL2;rw[hEr] at hG;have HC:=aa HCL2;clear g1 hin HBE hz1 hEr HBI HBD HCL HCL2 hid hright;unfold FV.val Cll.val at HC HBE2;have HRG:=aa (kH (o:=5) (xs:=r.call.vals.toList) hX3.out rfl);go_wp2_with (first|(refine ah rfl 27 _ rfl _ rfl w.heap.size rfl 27 _ (0,0) _ J3.out.k underlying27 rfl (by kernel_rfl) ?_)|(refine wpList_load_mid rfl 48 _ rfl A 5 rfl _ _ HRG.out underlying48 rfl (by kernel_rfl) ?_));refine HC.out.mono ?_;rintro e W4 ⟨rfl,hb4⟩;have J4:=aa (J3.out.next hb4);have hX4:=aa (ac hb4 (lt_of_block hX3.out) hX3.out);clear hb4 J3 hX3 HC HRG
   by_cases h0:z1=0
   rotate_left
   ·rw[if_pos h0,if_pos h0] at hG
    have hzb:(z1 != 0)=true:=by simpa using h0
    have hL:=HLS.out;have hH0:=aa h0;clear h0;cases hG;rw[if_neg hH0.out] at hL;subst hL;clear hX4;go_wp2_with fail;refine bodyPost_ret (by simp[results,results84,go_sem]) rfl ⟨⟨_,rfl,fI _ _⟩,J4.out.b⟩
   subst h0;rw[if_neg (show ¬(0:Int)≠0 by simp)] at hG;obtain⟨tq,htq⟩:=ag (decide (r.call.kind=3∧r.call.crs.year≠r.year))
   have hA:(if r.call.kind=3∧r.call.crs.year≠r.year then(1:Int) else 0)=if tq=true then 1 else 0:=by
    rw[←htq]
    by_cases q:r.call.kind=3∧r.call.crs.year≠r.year
    ·rw[if_pos q,if_pos (decide_eq_true q)]
    ·rw[if_neg q,if_neg (by rw[decide_eq_false q];simp)]
   rw[hA] at hG
   have hG2:(if tq=true then((k:Int),(1:Int)) else if 2000<(j9 F l k).length+(Rcd.bs F r).length then((k:Int),2) else fH F (List.drop (k+1) l) (k+1) r.id ((j9 F l k).length+(Rcd.bs F r).length))=(R1,R2):=by
    rw[←hG]
    cases tq<;>simp
   clear hA;clear hG;have kr:=ak hX4.out;unfold Rcd.vals at kr;go_upto_region 14 with fail
   go_cut [73] (fun t wx=>t=.bool tq∧wx=W4)
   case first =>
    by_cases q3:r.call.kind=3
    ·have q3b:(r.call.kind==3)=true:=by rw[q3];rfl
     by_cases q4:r.call.crs.year=r.year
     ·have q4b:(r.call.crs.year != r.year)=false:=by rw[q4];simp
      obtain rfl:tq=false:=by rw[←htq];simp[q4]
      clear q3 q4 htq;go_wp2_with fail;go_meet;exact⟨by simp[*],rfl⟩
     ·have q4b:(r.call.crs.year != r.year)=true:=by simpa using q4
      obtain rfl:tq=true:=by rw[←htq];simp[q3,q4]
      clear q3 q4 htq;go_wp2_with fail;go_meet;exact⟨by simp[*],rfl⟩
    ·have q3b:(r.call.kind==3)=false:=by simpa using q3
     obtain rfl:tq=false:=by rw[←htq];simp[q3]
     clear q3 htq;go_wp2_with fail;go_meet;exact⟨by simp[*],rfl⟩
   case rest =>
   obtain⟨rfl,rfl⟩:=hcut;clear htq kr;obtain⟨W4,rfl⟩:∃z:World,z=wc:=⟨wc,rfl⟩;cases tq
   rotate_left
   ·rw[if_pos rfl] at hG2
    cases hG2;have hL:=HLS.out;rw[if_neg (by simp)] at hL;subst hL;clear hX4;go_wp2_with fail;refine bodyPost_ret (by simp[results,results84,go_sem]) rfl ⟨⟨_,rfl,fI _ _⟩,J4.out.b⟩
   rw[if_neg (by simp)] at hG2;have HRG:=aa (kH (o:=5) (xs:=r.call.vals.toList) hX4.out rfl);have c0:W4.cell? ⟨A,0,none⟩=some (.int .i64 r.id):=ce (i:=0) hX4.out rfl;go_wp2_with (first|(refine ah rfl 27 _ rfl _ rfl w.heap.size rfl 27 _ (0,0) _ J4.out.k underlying27 rfl (by kernel_rfl) ?_)|(refine wpList_load_mid rfl 48 _ rfl A 5 rfl _ _ HRG.out underlying48 rfl (by kernel_rfl) ?_));refine(HBE2.out trivial _ J4.out.b).mono ?_;rintro e W5 ⟨⟨v2,rfl,hv2⟩,hb5⟩;have J5:=J4.out.next hb5;have h2000:=H2.out;have h4000:(r.bs F).length≤4000:=HLN.out trivial;obtain⟨v3,W6,hrun,ho,hbl6,hty⟩:=zO J5.own hv2 (HNE.out trivial) (by omega) (by omega) (Nat.le_of_lt J5.lt) 59;have J6:=J5.more ho hbl6 hty;rw[HTK.out] at J6;obtain⟨o3,c3,rfl⟩:=vR J6.own;obtain⟨M,hM⟩:=ag ((j9 F l (k+1)).length);rw[show(j9 F l k).length+(Rcd.bs F r).length=M by rw[←hM,←HTK.out,List.length_append]] at hG2
   have hMb:M≤6000:=by rw[←hM,←HTK.out,List.length_append];omega
   rw[hM] at hrun J6;have HRUN:=aa hrun;have HJ6:=aa J6;have HM:=aa hM;clear hrun ho hbl6 hty J5 J4 J6 hv2 hb5 hX4 c0 h2000 h4000 hM HNE HLN HBE2 HRG HTK H2
   by_cases g3:2000<M
   ·rw[if_pos g3] at hG2
    cases hG2;have hL:=HLS.out;rw[if_neg (by simp)] at hL;subst hL;go_wp2_with (at_builtin;refine aN rfl (s:=.tmp 88) (x:=.tmp 89) (t:=59) rfl rfl rfl HRUN.out ?_);refine bodyPost_ret (by simp[results,results84,go_sem]) rfl ⟨⟨_,rfl,fI _ _⟩,HJ6.out.b⟩
   ·rw[if_neg g3] at hG2
    have HG3:=aa hG2;clear hG2;go_wp2_with (at_builtin;refine aN rfl (s:=.tmp 88) (x:=.tmp 89) (t:=59) rfl rfl rfl HRUN.out ?_);go_roundw
    case rel=>exact⟨k+1,by omega,by go_num,HJ6,aa (by rw[HLI.out,HM.out];exact HG3.out),aa (by rw[HM.out];omega)⟩
    case measure=>simp[intOf];omega
  ·have e1:=HG.out
   rw[List.drop_of_length_le (by omega)] at e1;have e2:((0:Int),(0:Int))=(R1,R2):=e1;cases e2;have hL:=HLS.out;rw[if_pos rfl] at hL;subst hL
   have e3:j9 F l k=aj F l:=by rw[show k=l.length by omega];exact zw F l
   have J7:=J.out;rw[e3] at J7;have J8:=aa J7;clear e1 e3 J7 J H2;go_wp2_with fail;refine bodyPost_ret (by simp[results,results84,go_sem]) rfl ⟨⟨_,rfl,J8.out.own⟩,J8.out.b⟩
theorem t7 (w:World) (x:FV) (F:Fld) (h:FldAt w x F) :
 Calls prog 149 #[x.val F] w fun e w'=>e=.returned (.int .i64 (if F.check=0 then F.points else 0))∧Below w.heap.size w w':=by
 obtain⟨w0,hw0⟩:∃W,W=w.alloc (.cells (x.arr F) 27):=⟨_,rfl⟩;have B0:=aa (show Below w.heap.size w w0 by rw[hw0];exact aD);have X0:=aa (show Kb [(w.heap.size,.cells (x.arr F) 27)] w0 by rw[hw0];exact Kb.alloc trivial);have HCF:=aa (fZ w0 x F (h.below B0.out));have HNT:=aa (fun(q:F.check=0) W=>oH W x F (by have:=(bb q).2.1;omega) (by have:=(bb q).1;omega));obtain⟨p,hp⟩:=ag F.points;obtain⟨R,hR⟩:=ag (if F.check=0 then F.points else 0);rw[hR];obtain⟨z,hz⟩:=ag F.check;rw[hz,hp] at hR;rw[hp] at HNT;rw[hz] at HCF HNT;clear hz hp h;have kk:=ak X0.out.1
 unfold FV.val FV.arr at *
 go_enter func149,ntmps149;go_upto_region 1 with fail;rw[←hw0];clear hw0;go_wp2_with fail;refine HCF.out.mono ?_;rintro e w1 ⟨rfl,hb1⟩;have X1:=aa (X0.out.next hb1);have B1:=bU B0 hb1;clear hb1 HCF X0 kk
 by_cases h0:z=0
 rotate_left
 ·rw[if_neg h0] at hR
  have hzb:(z != 0)=true:=by simpa using h0
  subst hR;clear h0;go_wp2_with fail;go_ret;exact⟨rfl,B1.out⟩
 subst h0;rw[if_pos rfl] at hR;subst hR;have kk:=ak X1.out.1;go_wp2_with fail;refine(HNT.out trivial _).mono ?_;rintro e w3 ⟨rfl,hb3⟩;have HB3:=aa hb3;clear hb3 kk;go_wp2_with fail;go_ret;exact⟨rfl,bB B1.out HB3.out⟩
structure WV where
 x:FV
 o:Option Addr
 c:Nat
 ar:Option Addr
 cr:Nat
def WV.arr (y:WV) (F:Fld) (l:List Rcd):Array Value:=#[.int .i64 (bj F),.slice y.o (aj F l).length y.c,.slice y.x.aS F.sts.length y.x.cS,.slice y.x.aL F.lms.length y.x.cL,.slice y.x.aP F.prs.length y.x.cP,.slice y.x.aV F.vrs.length y.x.cV,.slice y.ar l.length y.cr]
structure WAt (W:World) (b:Nat) (y:WV) (F:Fld) (l:List Rcd):Prop where
 box:W.heap[b]?=some (.cells (y.arr F l) 119 (0,0))
 bnd:BoundsAt W y.o (aj F l)
 cap:(aj F l).length≤y.c∧y.c≤9223372036854775807
 fld:FldAt W y.x F
 rcd:cI W y.ar l
theorem WAt.next {W W':World} {b:Nat} {y:WV} {F:Fld} {l:List Rcd} (h:WAt W b y F l) (hb:Below W.heap.size W W'):WAt W' b y F l :=
 ⟨ac hb (lt_of_block h.box) h.box,h.bnd.below hb (Nat.le_refl _),h.cap,h.fld.below hb,h.rcd.below hb (Nat.le_refl _)⟩
theorem WAt.lt {W:World} {b:Nat} {y:WV} {F:Fld} {l:List Rcd} (h:WAt W b y F l):b<W.heap.size:=lt_of_block h.box
section
variable {P:Program} {ops:Array Oper} {Q:Exit→Act→World→Prop} {md:Region.Mode} {S S':World→Prop} {last:Nat}
theorem ei {fuel:Nat} {listed:Array Bool} {a:Act} {w:World} (i j:Nat) {oi oj:Oper} (hi:ops[i]?=some oi) (hj:ops[j]?=some oj) (hr:Region.ready md ops listed=[i,j])
 (h1:∀K':Act→World→Prop,Shut (∀a w,(i=last∨S w)→bv P md ops Q S last fuel (listed.setIfInBounds i true) a w→K' a w)→if Region.wanted oi (yielded ops a.tmps)=true then Oper.wp P oi a w K' Q else K' (a.put oi.dst undef) w)
 (h2:∀K':Act→World→Prop,Shut (∀a w,(j=last∨S w)→bv P md ops Q S last fuel (listed.setIfInBounds j true) a w→K' a w)→if Region.wanted oj (yielded ops a.tmps)=true then Oper.wp P oj a w K' Q else K' (a.put oj.dst undef) w) :
 bv P md ops Q S last (fuel+1) listed a w :=
 ⟨fun h0=>(by rw[hr] at h0;cases h0),fun k hk=>by
  rw[hr] at hk;simp only[List.mem_cons,List.not_mem_nil,or_false] at hk
  rcases hk with rfl|rfl
  ·exact wpOp_step hi fun K' hK=>h1 K' fun a w q1 q2=>hK a w ⟨q1,q2⟩
  ·exact wpOp_step hj fun K' hK=>h2 K' fun a w q1 q2=>hK a w ⟨q1,q2⟩⟩
end
theorem rS {W:World} {base g n cap:Nat} {l:List Bd} (h:W.ownsRow base 65 4 (.slice (some ⟨g,0,none⟩) n cap) l.length (bh l)) {i:Nat} (r:List Bd) (hr:∀q (hq:q<r.length),∃h:i+q<l.length,l[i+q]=r[q]):BoundsAt W (some ⟨g,i*4,none⟩) r:=by
 rcases h.2 with ⟨e,_⟩|⟨gb,cp,cur,e,_,hh,hn,_,hsz,htk⟩
 ·cases e
 ·cases e
  refine .inr ⟨g,i*4,rfl,lt_of_block hh,fun q hq=>?_⟩;obtain⟨hl,e2⟩:=hr q hq
  have key:∀j v,j<4→(r[q]).cells[j]?=some v→W.cell? ⟨g,i*4+q*4+j,none⟩=some v:=by
   intro j v hj hv;rw[cell_of_row _ _ _ _ _ _ hh,show i*4+q*4+j=(i+q)*4+j by omega];have h3:=gW l (i+q) hl j hj;rw[←htk,List.getElem?_take_of_lt (by omega),e2,hv] at h3;simpa using h3
  exact⟨key 0 _ (by omega) rfl,key 1 _ (by omega) rfl,key 2 _ (by omega) rfl,key 3 _ (by omega) rfl⟩
theorem qD {W:World} {base g n cap:Nat} {l:List Bd} (h:W.ownsRow base 65 4 (.slice (some ⟨g,0,none⟩) n cap) l.length (bh l)) (i:Nat) (hi:i≤l.length):BoundsAt W (some ⟨g,0,none⟩) (l.take i):=by
 have:=rS h (i:=0) (l.take i) (fun q hq=>by
  have hq':q<i:=by simp at hq;omega
  exact⟨by omega,by simp⟩)
 rwa [Nat.zero_mul] at this
theorem zx {w:World} {base:Nat} {v:Value} {bs:List Bd} (h:w.ownsRow base 65 4 v bs.length (bh bs)):∃o c,v=.slice o bs.length c∧BoundsAt w o bs∧bs.length≤c∧c≤9223372036854775807:=by
 obtain⟨h1,⟨e1,e2⟩|⟨g,cap,cur,e1,e3,e4,e5,e6,e7⟩⟩:=h
 ·exact⟨none,0,by rw[e1,e2],.inl (List.length_eq_zero_iff.1 e2),by omega,by omega⟩
 ·subst e1
  have:=qD (l:=bs) ⟨h1,.inr ⟨g,cap,cur,rfl,e3,e4,e5,e6,e7⟩⟩ bs.length (Nat.le_refl _);rw[List.take_of_length_le (Nat.le_refl _)] at this;exact⟨_,_,rfl,this,e5,by unfold maxLen at e6;omega⟩
theorem AK (F:Fld):F.points=(bj F:Int):=by unfold Fld.points bj;push_cast;omega
def iY (w:World) (x:FV) (F:Fld) (ar:Option Addr) (cr:Nat) (l:List Rcd) (err:Int) (e:Ending) (w':World):Prop :=
 if err=0 then ∃b o c,e=.returned (.tuple #[.pointer (some ⟨b,0,none⟩),.int .i64 0])∧WAt w' b ⟨x,o,c,ar,cr⟩ F l∧w.heap.size≤b∧w'.ownsRow w.heap.size 65 4 (.slice o (aj F l).length c) (aj F l).length (bh (aj F l))
 else e=.returned (.tuple #[.pointer none,.int .i64 err])
theorem rW (w:World) (x:FV) (F:Fld) (ar:Option Addr) (cr:Nat) (l:List Rcd) (h:FldAt w x F) (hr:cI w ar l) (hn:l.length≤100000) (hk:∀r∈l,(0≤r.call.kind∧r.call.kind≤255)∧r.deed.size≤9223372036854775807) :
 Calls prog 85 #[x.val F,.slice ar l.length cr] w fun e w'=>iY w x F ar cr l (cm F l).2 e w'∧Below w.heap.size w w':=by
 obtain⟨w0,hw0⟩:∃W,W=w.alloc (.cells (x.arr F) 27):=⟨_,rfl⟩;have B0:=aa (show Below w.heap.size w w0 by rw[hw0];exact aD);have X0:=aa (show w0.heap[w.heap.size]?=some (.cells (x.arr F) 27 (0,0)) by rw[hw0];exact heap_alloc_new _ _);have HC:=aa (qY w0 x F ar cr l (h.below B0.out) (hr.below B0.out (Nat.le_refl _)) hn hk);have HPT:=aa (fun W (hb:Below w.heap.size w W)=>t7 W x F (h.below hb));have HF:=aa (fun W (hb:Below w.heap.size w W)=>h.below hb);have HRR:=aa (fun W (hb:Below w.heap.size w W)=>hr.below hb (Nat.le_refl _));have HG:=aa (fun(q:(cm F l).2=0)=>(fM F l).1 q);have HSE:=aa (show xX F l=if(cm F l).2=0 then aj F l else[] from rfl);obtain⟨⟨r1,r2⟩,hR⟩:=ag (cm F l);rw[hR] at HC HG HSE ⊢;obtain⟨SE,hSE⟩:=ag (xX F l);rw[hSE] at HC HSE;clear hR h hr hn hk hSE;have kk:=ak X0.out
 unfold FV.val FV.arr at *
 go_enter func85,ntmps85;go_upto_region 1 with fail;rw[←hw0];clear hw0;go_wp2_with fail;refine HC.out.mono ?_;rintro e w1 ⟨⟨v,rfl,hv⟩,hb1⟩;have B1:=bU B0 hb1;have X1:=aa (ac hb1 (lt_of_block X0.out) X0.out);have hv2:=hv.mono B0.out.size;clear hb1 HC X0 kk hv
 by_cases h0:r2=0
 rotate_left
 ·have hzb:(r2 != 0)=true:=by simpa using h0
  have H0:=aa h0;clear h0 hv2;go_wp2_with fail;go_ret2;exact⟨by unfold iY;rw[if_neg H0.out];rfl,B1.out⟩
 subst h0;have hL:=HSE.out;rw[if_pos rfl] at hL;subst hL;have hG:=HG.out rfl;have hF0:=hG.fld;have HPW:=aa (fun W (hb:Below w.heap.size w W)=>(by have:=HPT.out W hb;rw[if_pos hF0,AK] at this;exact this));obtain⟨o,c,rfl,hbd,hc1,hc2⟩:=zx hv2;have HBD:=aa hbd;have HC1:=aa (And.intro hc1 hc2);have HV:=aa hv2;clear hbd hc1 hc2 hv2 HPT HG HSE hG hF0;unfold FV.val at HPW;obtain⟨P,hP⟩:∃P:Int,((bj F:Nat):Int)=P:=⟨_,rfl⟩;rw[hP] at HPW;have HPE:=aa hP;obtain⟨LN,hLN⟩:=ag ((aj F l).length);have HLN:=aa hLN;rw[hLN];clear hP hLN;go_upto_region 4 with fail;have hS0:Below w1.heap.size w1 w1.drew:=(Below.refl _ _).drew;refine aJ (S:=Below w1.heap.size w1) (last:=100) (by kernel_rfl) ?_;refine tf 0 19 (.agg #[.slice x.aS F.sts.length x.cS,.slice x.aL F.lms.length x.cL,.slice x.aP F.prs.length x.cP,.slice x.aV F.vrs.length x.cV]) hS0 (fun V hV=>?_) ?_
 ·exact gp rfl rfl (ac hV (lt_of_block X1.out) X1.out) underlying27 rfl (by kernel_rfl)
 (try simp only[s3]);refine aR 2 21 (.slice o LN c) hS0 ?_;(try simp only[s3]);refine tf 4 23 (.agg #[.slice x.aS F.sts.length x.cS,.slice x.aL F.lms.length x.cL,.slice x.aP F.prs.length x.cP,.slice x.aV F.vrs.length x.cV]) hS0 (fun V hV=>?_) ?_
 ·exact gp rfl rfl (ac hV (lt_of_block X1.out) X1.out) underlying27 rfl (by kernel_rfl)
 (try simp only[s3]);refine aR 5 24 (.slice ar l.length cr) hS0 ?_;(try simp only[s3]);refine ae 1 rfl (by kernel_rfl) (fun K hK=>?_);go_simp;go_at_call 149;refine(HPW.out _ (bB B1.out hS0)).mono ?_;rintro e wq ⟨rfl,hbq⟩;have hSq:Below w1.heap.size w1 wq:=bB hS0 hbq;clear hbq hS0;go_wp2_with fail;refine hK.out _ _ (.inr hSq) ?_;clear hK K;(try simp only[Act.put,s3]);refine aR 3 22 (.agg #[.int .i64 P,.slice o LN c]) hSq ?_;(try simp only[s3]);refine aR 6 25 (.agg #[.int .i64 P,.slice o LN c,.slice x.aS F.sts.length x.cS,.slice x.aL F.lms.length x.cL,.slice x.aP F.prs.length x.cP,.slice x.aV F.vrs.length x.cV,.slice ar l.length cr]) hSq ?_;(try simp only[s3]);refine ae 7 rfl (by kernel_rfl) (fun K hK=>?_);have hS2:Below w1.heap.size w1 (wq.alloc (.cells #[.int .i64 P,.slice o LN c,.slice x.aS F.sts.length x.cS,.slice x.aL F.lms.length x.cL,.slice x.aP F.prs.length x.cP,.slice x.aV F.vrs.length x.cV,.slice ar l.length cr] 119)):=hSq.alloc hSq.size _;go_simp;refine hK.out _ _ (.inr hS2) ?_;clear hK K;(try simp only[Act.put,s3]);refine aR 8 4 (.pointer (some ⟨wq.heap.size,0,none⟩)) hS2 ?_;(try simp only[s3]);refine aR 9 5 (.int .i64 0) hS2 ?_;(try simp only[s3]);refine aw (by kernel_rfl) ?_ _;go_wp2_with fail;have hb9:Below w.heap.size w (wq.alloc (.cells #[.int .i64 P,.slice o LN c,.slice x.aS F.sts.length x.cS,.slice x.aL F.lms.length x.cL,.slice x.aP F.prs.length x.cP,.slice x.aV F.vrs.length x.cV,.slice ar l.length cr] 119)):=bB B1.out hS2;refine bodyPost_ret (v:=.tuple #[.pointer (some ⟨wq.heap.size,0,none⟩),.int .i64 0]) (by simp[results,results85,go_sem]) rfl ⟨?_,hb9⟩;unfold iY;rw[if_pos rfl];refine⟨wq.heap.size,o,c,rfl,⟨?_,HBD.out.below hS2 (Nat.le_refl _),HC1.out,HF.out _ hb9,HRR.out _ hb9⟩,Nat.le_trans B1.out.size hSq.size,?_⟩
 ·unfold WV.arr
  rw[HPE.out,HLN.out];exact heap_alloc_new _ _
 ·have q:=av HV.out (fun g hg=>hS2.block g (jh HV.out hg).1)
  rw[HLN.out] at q ⊢;exact q
theorem uQ (w:World) (b:Nat) (y:WV) (F:Fld) (l:List Rcd) (h:WAt w b y F l) (hN:bK (bj F)) :
 Calls prog 108 #[.pointer (some ⟨b,0,none⟩)] w fun e w'=>e=.returned (.int .i64 (if(aQ (bj F) (aj F l)).2≠0∨(aQ (bj F) (aj F l)).1=false then 40 else 0))∧Below w.heap.size w w':=by
 obtain⟨⟨cb,er⟩,hE⟩:=ag (aQ (bj F) (aj F l));obtain⟨R,hR⟩:∃R:Int,(if(aQ (bj F) (aj F l)).2≠0∨(aQ (bj F) (aj F l)).1=false then 40 else 0)=R:=⟨_,rfl⟩;rw[hR];have HCN:=aa (gm w (bj F) y.o y.c (aj F l) hN (Nat.le_trans h.cap.1 h.cap.2) h.bnd);rw[hE] at HCN hR;have kw:=ak h.box;unfold WV.arr at kw;obtain⟨P,hP⟩:∃P:Int,((bj F:Nat):Int)=P:=⟨_,rfl⟩;rw[hP] at kw HCN;obtain⟨LN,hLN⟩:=ag ((aj F l).length);rw[hLN] at kw HCN;clear hP hLN h hE hN;go_enter func108,ntmps108;go_wp2_with fail;refine HCN.out.mono ?_;rintro e w1 ⟨rfl,hb1⟩;have HB:=aa hb1;clear hb1 HCN kw
 by_cases h0:er=0
 ·subst h0
  cases cb
  ·rw[if_pos (.inr rfl)] at hR
   subst hR;go_wp2_with fail;go_ret;exact⟨rfl,HB.out⟩
  ·rw[if_neg (by simp)] at hR
   subst hR;go_wp2_with fail;go_ret;exact⟨rfl,HB.out⟩
 ·rw[if_pos (.inl h0)] at hR
  have hzb:(er != 0)=true:=by simpa using h0
  subst hR;clear h0;go_wp2_with fail;go_ret;exact⟨rfl,HB.out⟩
theorem fW (w:World) (b:Nat) (y:WV) (F:Fld) (l:List Rcd) (i s:Int) (h:WAt w b y F l) (hF:F.check=0) :
 Calls prog 75 #[.pointer (some ⟨b,0,none⟩),.agg #[.int .i64 i,.int .i64 s]] w fun e w'=>e=.returned (.bool (bD F i s))∧Below w.heap.size w w':=by
 have fl:=(bb hF).2.1;have fs:=(bb hF).1;have H1:=aa (fun W=>fK i 0 ((F.lms.length:Int)-1) W);have H2:=aa (fun W=>fK s 0 ((F.sts.length:Int)-1) W);unfold bD bZ aY;obtain⟨p1,hp1⟩:=ag (bm i 0 ((F.lms.length:Int)-1));obtain⟨p2,hp2⟩:=ag (bm s 0 ((F.sts.length:Int)-1));rw[hp1] at H1 ⊢;rw[hp2] at H2 ⊢;have wl:IntKind.i64.wrap ((F.lms.length:Int)-1)=(F.lms.length:Int)-1:=IntWalk.i64_in _ (by omega);have ws:IntKind.i64.wrap ((F.sts.length:Int)-1)=(F.sts.length:Int)-1:=IntWalk.i64_in _ (by omega);obtain⟨w0,hw0⟩:∃W,W=w.alloc (.cells #[.int .i64 i,.int .i64 s] 30):=⟨_,rfl⟩;have B0:=aa (show Below w.heap.size w w0 by rw[hw0];exact aD);have X0:=aa (show w0.heap[w.heap.size]?=some (.cells #[.int .i64 i,.int .i64 s] 30 (0,0)) by rw[hw0];exact heap_alloc_new _ _);have HX:=h.next B0.out;clear hp1 hp2 h hF fl fs;go_enter func75,ntmps75;go_upto_region 1 with fail;rw[←hw0];clear hw0;have hS0:Below w0.heap.size w0 w0.drew:=(Below.refl _ _).drew
 cases p1 with
 | false =>
   refine aJ (S:=Below w0.heap.size w0) (last:=100) (by kernel_rfl) ?_;refine aR 0 5 (.pointer (some ⟨w.heap.size,0,none⟩)) hS0 ?_;(try simp only[s3]);refine tf 1 6 (.int .i64 i) hS0 (fun V hV=>?_) ?_
   ·(have z:V.cell? ⟨w.heap.size,0,none⟩=some (.int .i64 i):=ce (i:=0) (ac hV (lt_of_block X0.out) X0.out) rfl;simp[go_sem,execOp,z])
   (try simp only[s3]);refine aR 2 7 (.pointer (some ⟨b,0,none⟩)) hS0 ?_;(try simp only[s3]);refine aR 3 8 (.pointer (some ⟨b,0,none⟩)) hS0 ?_;(try simp only[s3]);refine aR 4 9 (.pointer (some ⟨b,2,none⟩)) hS0 ?_;(try simp only[s3]);refine aR 5 10 (.pointer (some ⟨b,3,none⟩)) hS0 ?_;(try simp only[s3]);refine tf 6 11 (.slice y.x.aL F.lms.length y.x.cL) hS0 (fun V hV=>?_) ?_
   ·(have z:V.cell? ⟨b,3,none⟩=some (.slice y.x.aL F.lms.length y.x.cL):=ce (i:=3) (ac hV HX.lt HX.box) rfl;simp[go_sem,execOp,z])
   (try simp only[s3]);refine aR 7 12 (.int .i64 ((F.lms.length:Int))) hS0 ?_;(try simp only[s3]);refine tf 8 13 (.int .i64 ((F.lms.length:Int)-1)) hS0 (fun V hV=>?_) ?_
   ·simp[go_sem,execOp,wl]
   (try simp only[s3]);refine ae 9 rfl (by kernel_rfl) (fun K hK=>?_);go_simp;go_at_call 102;refine(H1.out _).mono ?_;rintro e wq ⟨rfl,rfl⟩;have hS1:=hS0;go_wp2_with fail;refine hK.out _ _ (.inr hS1) ?_;clear hK K;(try simp only[Act.put,s3]);refine aR 10 15 (.bool false) hS1 ?_;(try simp only[s3]);refine tO 11 16 rfl (by kernel_rfl) rfl (fun _ _ _ h=>h) hS1 ?_;(try simp only[s3]);refine tO 12 17 rfl (by kernel_rfl) rfl (fun _ _ _ h=>h) hS1 ?_;(try simp only[s3]);refine tO 13 18 rfl (by kernel_rfl) rfl (fun _ _ _ h=>h) hS1 ?_;(try simp only[s3]);refine tO 14 19 rfl (by kernel_rfl) rfl (fun _ _ _ h=>h) hS1 ?_;(try simp only[s3]);refine tO 15 20 rfl (by kernel_rfl) rfl (fun _ _ _ h=>h) hS1 ?_;(try simp only[s3]);refine tO 16 21 rfl (by kernel_rfl) rfl (fun _ _ _ h=>h) hS1 ?_;(try simp only[s3]);refine tO 17 22 rfl (by kernel_rfl) rfl (fun _ _ _ h=>h) hS1 ?_;(try simp only[s3]);refine tO 18 23 rfl (by kernel_rfl) rfl (fun _ _ _ h=>h) hS1 ?_;(try simp only[s3]);refine tO 19 24 rfl (by kernel_rfl) rfl (fun _ _ _ h=>h) hS1 ?_;(try simp only[s3]);refine tO 20 25 rfl (by kernel_rfl) rfl (fun _ _ _ h=>h) hS1 ?_;(try simp only[s3]);refine aR 21 26 (.bool false) hS1 ?_;(try simp only[s3]);refine aR 22 4 (.bool false) hS1 ?_;(try simp only[s3]);refine aw (by kernel_rfl) ?_ _;go_wp2_with fail;go_ret;exact⟨by simp,bB B0.out hS1⟩
 | true =>
   refine aJ (S:=Below w0.heap.size w0) (last:=100) (by kernel_rfl) ?_;refine aR 0 5 (.pointer (some ⟨w.heap.size,0,none⟩)) hS0 ?_;(try simp only[s3]);refine tf 1 6 (.int .i64 i) hS0 (fun V hV=>?_) ?_
   ·(have z:V.cell? ⟨w.heap.size,0,none⟩=some (.int .i64 i):=ce (i:=0) (ac hV (lt_of_block X0.out) X0.out) rfl;simp[go_sem,execOp,z])
   (try simp only[s3]);refine aR 2 7 (.pointer (some ⟨b,0,none⟩)) hS0 ?_;(try simp only[s3]);refine aR 3 8 (.pointer (some ⟨b,0,none⟩)) hS0 ?_;(try simp only[s3]);refine aR 4 9 (.pointer (some ⟨b,2,none⟩)) hS0 ?_;(try simp only[s3]);refine aR 5 10 (.pointer (some ⟨b,3,none⟩)) hS0 ?_;(try simp only[s3]);refine tf 6 11 (.slice y.x.aL F.lms.length y.x.cL) hS0 (fun V hV=>?_) ?_
   ·(have z:V.cell? ⟨b,3,none⟩=some (.slice y.x.aL F.lms.length y.x.cL):=ce (i:=3) (ac hV HX.lt HX.box) rfl;simp[go_sem,execOp,z])
   (try simp only[s3]);refine aR 7 12 (.int .i64 ((F.lms.length:Int))) hS0 ?_;(try simp only[s3]);refine tf 8 13 (.int .i64 ((F.lms.length:Int)-1)) hS0 (fun V hV=>?_) ?_
   ·simp[go_sem,execOp,wl]
   (try simp only[s3]);refine ae 9 rfl (by kernel_rfl) (fun K hK=>?_);go_simp;go_at_call 102;refine(H1.out _).mono ?_;rintro e wq ⟨rfl,rfl⟩;have hS1:=hS0;go_wp2_with fail;refine hK.out _ _ (.inr hS1) ?_;clear hK K;(try simp only[Act.put,s3]);refine aR 10 15 (.bool true) hS1 ?_;(try simp only[s3]);refine aR 11 16 (.pointer (some ⟨w.heap.size,1,none⟩)) hS1 ?_;(try simp only[s3]);refine tf 12 17 (.int .i64 s) hS1 (fun V hV=>?_) ?_
   ·(have z:V.cell? ⟨w.heap.size,1,none⟩=some (.int .i64 s):=ce (i:=1) (ac hV (lt_of_block X0.out) X0.out) rfl;simp[go_sem,execOp,z])
   (try simp only[s3]);refine aR 13 18 (.pointer (some ⟨b,0,none⟩)) hS1 ?_;(try simp only[s3]);refine aR 14 19 (.pointer (some ⟨b,0,none⟩)) hS1 ?_;(try simp only[s3]);refine aR 15 20 (.pointer (some ⟨b,2,none⟩)) hS1 ?_;(try simp only[s3]);refine aR 16 21 (.pointer (some ⟨b,2,none⟩)) hS1 ?_;(try simp only[s3]);refine tf 17 22 (.slice y.x.aS F.sts.length y.x.cS) hS1 (fun V hV=>?_) ?_
   ·(have z:V.cell? ⟨b,2,none⟩=some (.slice y.x.aS F.sts.length y.x.cS):=ce (i:=2) (ac hV HX.lt HX.box) rfl;simp[go_sem,execOp,z])
   (try simp only[s3]);refine aR 18 23 (.int .i64 ((F.sts.length:Int))) hS1 ?_;(try simp only[s3]);refine tf 19 24 (.int .i64 ((F.sts.length:Int)-1)) hS1 (fun V hV=>?_) ?_
   ·simp[go_sem,execOp,ws]
   (try simp only[s3]);refine ae 20 rfl (by kernel_rfl) (fun K hK=>?_);go_simp;go_at_call 102;refine(H2.out _).mono ?_;rintro e wq ⟨rfl,rfl⟩;have hS2:=hS1;go_wp2_with fail;refine hK.out _ _ (.inr hS2) ?_;clear hK K;(try simp only[Act.put,s3]);refine aR 21 26 (.bool p2) hS2 ?_;(try simp only[s3]);refine aR 22 4 (.bool p2) hS2 ?_;(try simp only[s3]);refine aw (by kernel_rfl) ?_ _;go_wp2_with fail;go_ret;exact⟨by simp,bB B0.out hS2⟩
theorem ir (w:World) (b:Nat) (y:WV) (F:Fld) (l:List Rcd) (i s:Int) (h:WAt w b y F l) (hF:F.check=0) (hi:bZ F i=true) (hs:aY F s=true) :
 Calls prog 83 #[.pointer (some ⟨b,0,none⟩),.agg #[.int .i64 i,.int .i64 s]] w fun e w'=>e=.returned (.int .i64 (eX F i s:Int))∧Below w.heap.size w w':=by
 have fl:=(bb hF).2.1;have fs:=(bb hF).1;have bd:=kh hi hs;have pl:=iC hF;rw[bd.2.2]
 unfold eE at *
 obtain⟨m,hm⟩:=ag (i*(F.sts.length:Int));rw[hm] at bd ⊢;unfold aY at hs;have hs2:=dZ.1 hs
 have wm:IntKind.i64.wrap (i*(F.sts.length:Int))=m:=by rw[hm];exact IntWalk.i64_in _ (by omega)
 have wm1:IntKind.i64.wrap (1+m)=1+m:=IntWalk.i64_in _ (by omega);have wm2:IntKind.i64.wrap (1+m+s)=1+m+s:=IntWalk.i64_in _ (by omega);obtain⟨w0,hw0⟩:∃W,W=w.alloc (.cells #[.int .i64 i,.int .i64 s] 30):=⟨_,rfl⟩;have B0:=aa (show Below w.heap.size w w0 by rw[hw0];exact aD);have X0:=aa (show w0.heap[w.heap.size]?=some (.cells #[.int .i64 i,.int .i64 s] 30 (0,0)) by rw[hw0];exact heap_alloc_new _ _);have HX:=h.next B0.out;clear h hF fl fs bd pl hs hi hm hs2;go_enter func83,ntmps83;go_upto_region 1 with fail;rw[←hw0];clear hw0;have hS0:Below w0.heap.size w0 w0.drew:=(Below.refl _ _).drew;refine aJ (S:=Below w0.heap.size w0) (last:=100) (by kernel_rfl) ?_;refine aR 0 5 (.pointer (some ⟨w.heap.size,0,none⟩)) hS0 ?_;(try simp only[s3]);refine tf 1 6 (.int .i64 i) hS0 (fun V hV=>?_) ?_
 ·(have z:V.cell? ⟨w.heap.size,0,none⟩=some (.int .i64 i):=ce (i:=0) (ac hV (lt_of_block X0.out) X0.out) rfl;simp[go_sem,execOp,z])
 (try simp only[s3]);refine aR 2 7 (.pointer (some ⟨b,0,none⟩)) hS0 ?_;(try simp only[s3]);refine aR 3 8 (.pointer (some ⟨b,0,none⟩)) hS0 ?_;(try simp only[s3]);refine aR 4 9 (.pointer (some ⟨b,2,none⟩)) hS0 ?_;(try simp only[s3]);refine aR 5 10 (.pointer (some ⟨b,2,none⟩)) hS0 ?_;(try simp only[s3]);refine tf 6 11 (.slice y.x.aS F.sts.length y.x.cS) hS0 (fun V hV=>?_) ?_
 ·(have z:V.cell? ⟨b,2,none⟩=some (.slice y.x.aS F.sts.length y.x.cS):=ce (i:=2) (ac hV HX.lt HX.box) rfl;simp[go_sem,execOp,z])
 (try simp only[s3]);refine aR 7 12 (.int .i64 ((F.sts.length:Int))) hS0 ?_;(try simp only[s3]);refine tf 8 13 (.int .i64 m) hS0 (fun V hV=>?_) ?_
 ·simp[go_sem,execOp,wm]
 (try simp only[s3]);refine tf 9 14 (.int .i64 (1+m)) hS0 (fun V hV=>?_) ?_
 ·simp[go_sem,execOp,wm1]
 (try simp only[s3]);refine aR 10 15 (.pointer (some ⟨w.heap.size,1,none⟩)) hS0 ?_;(try simp only[s3]);refine tf 11 16 (.int .i64 s) hS0 (fun V hV=>?_) ?_
 ·(have z:V.cell? ⟨w.heap.size,1,none⟩=some (.int .i64 s):=ce (i:=1) (ac hV (lt_of_block X0.out) X0.out) rfl;simp[go_sem,execOp,z])
 (try simp only[s3]);refine tf 12 17 (.int .i64 (1+m+s)) hS0 (fun V hV=>?_) ?_
 ·simp[go_sem,execOp,wm2]
 (try simp only[s3]);refine aR 13 4 (.int .i64 (1+m+s)) hS0 ?_;(try simp only[s3]);refine aw (by kernel_rfl) ?_ _;go_wp2_with fail;go_ret;exact⟨rfl,bB B0.out hS0⟩
end Go.Proofs.YtkhemfnlflbniaaGreatDoor
