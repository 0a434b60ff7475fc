/- Merged text 10 of the base: Lm5, Lm6, Lm7, Lm8, Lm9, Lm10, C9, D1, E22, D0, D2, D3, D4, D5. No conditions beyond those stated. -/
import Derived.Test.YtkhemfnlflbniaaGreatDoorB09
import Derived.Great.Walk
import Derived.Test.YtkhemfnlflbniaaGreatDoorB08
import Derived.Laws.StructEq
import Derived.Laws.Rows
set_option maxRecDepth 100000
set_option maxHeartbeats 8000000
namespace Go.Proofs.YtkhemfnlflbniaaGreatDoor
def eX (F:Fld) (i s:Int):Nat:=(eE F i s).toNat
theorem kh {F:Fld} {i s:Int} (hi:bZ F i=true) (hs:aY F s=true):1≤eX F i s∧eX F i s<bj F∧(eX F i s:Int)=eE F i s:=by
 have:=iH hi hs;unfold eX;omega
theorem gh {F:Fld} {i:Int}:bZ F i=true↔0≤i∧i<F.lms.length:=by unfold bZ bm;simp only[Bool.and_eq_true,decide_eq_true_eq];omega
theorem fw {F:Fld} {i:Int}:aY F i=true↔0≤i∧i<F.sts.length:=by unfold aY bm;simp only[Bool.and_eq_true,decide_eq_true_eq];omega
def rf (p:Par) (s:Int):Bool:=decide (p.wst≤s)&&decide (s<p.est)
def mI (F:Fld) (l:List Rcd) (p:Par) (s:Int):Int×Int:=(eF F l (eX F p.south s),gT F l (eX F (p.south+1) s))
theorem zS {F:Fld} (hf:F.check=0) {p:Par} (hp:p∈F.prs):bZ F p.south=true∧bZ F (p.south+1)=true:=by
 have g:=(bb hf).2.2.2.2.1;rw[List.any_eq_false] at g;have:=g p hp;unfold cH bm at this;simp only[Bool.not_eq_true',Bool.not_eq_false,Bool.and_eq_true,decide_eq_true_eq] at this;rw[gh,gh];omega
def bH (y a b:Int):Int:=min (max y a) b
def nK (lo hi a b:Int):Int×Int×Int:=(bH lo a b-a,bH hi a b-bH lo a b,b-bH hi a b)
theorem pI {lo hi a b:Int} (hab:a<b) (h:lo≤hi):nK lo hi a b=(0,0,b-a)↔hi≤a:=by
 unfold nK bH;simp only[Prod.mk.injEq];omega
theorem pZ {lo hi a b:Int} (hab:a<b) (h:lo≤hi):nK lo hi a b=(b-a,0,0)↔b≤lo:=by
 unfold nK bH;simp only[Prod.mk.injEq];omega
def fA (F:Fld) (l:List Rcd) (id:Int):Bool:=(List.range (bj F)).all fun a=>(List.range (bj F)).all fun b=>decide (aF (bj F) (aj F (bE l id)) a b=aF (bj F) (aj F l) a b)
theorem yP {F:Fld} {l:List Rcd} {id:Int}:fA F l id=true↔∀a b,a<bj F→b<bj F→aF (bj F) (aj F (bE l id)) a b=aF (bj F) (aj F l) a b:=by
 unfold fA;simp only[List.all_eq_true,List.mem_range,decide_eq_true_eq];exact⟨fun h a b ha hb=>h a ha b hb,fun h a ha b hb=>h a b ha hb⟩
theorem kV {F:Fld} {l:List Rcd} (h:cX F l) {ps:List Int} (hp:∀p∈ps,0≤p∧p<bj F):bc (bj F) (aj F l) ps=if bi F l=true then 0 else 10:=by
 unfold bc;rw[if_neg (by rw[ez h];simp),if_neg]
 ·unfold bi mB
  cases aG (bj F) (aj F l)<;>simp
 ·unfold ek
  rw[if_neg]
  ·simp
  ·simp only[List.any_eq_true,not_exists,not_and]
   intro p hp2;have:=hp p hp2;unfold bm;simp only[Bool.not_eq_true',Bool.not_eq_false,Bool.and_eq_true,decide_eq_true_eq];omega
theorem nz {F:Fld} {l:List Rcd} (h:cX F l) (ha:bi F l=true) {a b:Nat} (h1:a<bj F) (h2:b<bj F) :
 dh (bj F) (aj F l) a b=(⟨-aF (bj F) (aj F l) b a,aF (bj F) (aj F l) a b,true,true⟩,0):=by
 have T:=zk h ha
 have k:bc (bj F) (aj F l) [(a:Int),(b:Int)]=0:=by
  rw[kV h (by simp;omega),if_pos ha]
 unfold dh;rw[if_pos k];simp only[Int.toNat_natCast];have e1:=T.fin a b h1 h2;have e2:=T.fin b a h2 h1;unfold aC at e1 e2;unfold BU nV nB;rw[if_neg (by omega),if_neg (by omega),decide_eq_true (by omega),decide_eq_true (by omega)]
theorem yA {F:Fld} {l:List Rcd} (h:cX F l) (ha:bi F l=true) {p:Nat} (h1:p<bj F) :
 dh (bj F) (aj F l) 0 p=(⟨gT F l p,eF F l p,true,true⟩,0):=nz h ha (a:=0) (iC h.fld).1 h1
theorem Aa {F:Fld} {l:List Rcd} (h:cX F l):(aj F l).length≤2000:=by
 have:=ez h;unfold aO at this
 by_cases q:128<(bj F:Int)∨2000<(aj F l).length
 ·rw[if_pos q] at this;exact absurd this (by decide)
 ·omega
def bD (F:Fld) (i s:Int):Bool:=bZ F i&&aY F s
def bq (b:Bool):Int:=if b=true then 0 else 1
def aW (F:Fld) (l:List Rcd) (more:Int):Int:=if(cm F l).2≠0 then(cm F l).2 else if more≠0 then more else if bi F l=true then 0 else 40
theorem cx {F:Fld} {l:List Rcd} {more:Int}:aW F l more=0↔cX F l∧more=0∧bi F l=true:=by
 unfold aW;rw[←fM]
 by_cases h1:(cm F l).2≠0
 ·rw[if_pos h1]
  exact⟨fun h=>absurd h h1,fun h=>absurd h.1 h1⟩
 ·rw[if_neg h1]
  by_cases h2:more≠0
  ·rw[if_pos h2]
   exact⟨fun h=>absurd h h2,fun h=>absurd h.2.1 h2⟩
  ·rw[if_neg h2]
   by_cases h3:bi F l=true
   ·rw[if_pos h3]
    exact⟨fun _=>⟨Classical.not_not.1 h1,Classical.not_not.1 h2,h3⟩,fun _=>rfl⟩
   ·rw[if_neg h3]
    exact⟨fun h=>absurd h (by decide),fun h=>absurd h.2.2 h3⟩
def jn (F:Fld) (l:List Rcd) (i s:Int):Int×Int×Int :=
 if aW F l (bq (bD F i s))≠0 then(0,0,aW F l (bq (bD F i s))) else(gT F l (eX F i s),eF F l (eX F i s),0)
def lS (F:Fld) (l:List Rcd) (i s j t:Int):Int×Int×Int :=
 if aW F l (bq (bD F i s&&bD F j t))≠0 then(0,0,aW F l (bq (bD F i s&&bD F j t)))
 else(-aF (bj F) (aj F l) (eX F j t) (eX F i s),aF (bj F) (aj F l) (eX F i s) (eX F j t),0)
def cZ (F:Fld) (i s a b:Int):Bool:=bD F i s&&(decide (0≤a)&&decide (a<b)&&decide (b≤100000))
def iP (F:Fld) (l:List Rcd) (i s a b:Int):(Int×Int×Int)×Int :=
 if aW F l (bq (cZ F i s a b))≠0 then((0,0,0),aW F l (bq (cZ F i s a b))) else(nK (gT F l (eX F i s)) (eF F l (eX F i s)) a b,0)
def rq (lo hi a b:Int):Int:=if hi≤a then 1 else if b≤lo then 2 else 0
def jW (F:Fld) (l:List Rcd) (i s a b:Int):Int×Int :=
 if aW F l (bq (cZ F i s a b))≠0 then(0,aW F l (bq (cZ F i s a b))) else(rq (gT F l (eX F i s)) (eF F l (eX F i s)) a b,0)
def A8:Rcd:=⟨0,0,ByteArray.empty,0,0,⟨0,0,0,0,0,0,0,crs0⟩⟩
def cN (F:Fld) (i:Nat):Par:=F.prs.getD i r8
def ma (F:Fld) (l:List Rcd) (parcel s:Int):Int×Int×Int :=
 if aW F l (bq (bm parcel 0 ((F.prs.length:Int)-1)&&aY F s))≠0 then(0,0,aW F l (bq (bm parcel 0 ((F.prs.length:Int)-1)&&aY F s)))
 else if rf (cN F parcel.toNat) s=false then(0,0,5)
 else if(mI F l (cN F parcel.toNat) s).2≤(mI F l (cN F parcel.toNat) s).1 then(0,0,0) else((mI F l (cN F parcel.toNat) s).1,(mI F l (cN F parcel.toNat) s).2,0)
theorem dZ {v a b:Int}:bm v a b=true↔a≤v∧v≤b:=by unfold bm;simp only[Bool.and_eq_true,decide_eq_true_eq]
end Go.Proofs.YtkhemfnlflbniaaGreatDoor
namespace Go.Proofs.YtkhemfnlflbniaaGreatDoor
open Go Go.RowKit Go.Shelf Tryz
def il:Option (Int×Int)×Int→Value
 | (none,e)=>.tuple #[.int .i64 0,.int .i64 0,.bool false,.int .i64 e]
 | (some p,e)=>.tuple #[.int .i64 p.1,.int .i64 p.2,.bool true,.int .i64 e]
theorem uX {l:List Vrn} {c:Crs} (dx:Int) (h:eW l c≠0):lD l c dx=(none,eW l c):=by
 unfold eW lD at *
 split
 ·rfl
 ·split
  ·rfl
  ·rename_i h1 h2
   rw[if_neg h1,if_neg h2] at h
   cases hd:eN l c.year with
   | none=>simp
   | some e=>rw[hd] at h;simp at h
theorem A7 {l:List Vrn} {c:Crs} (dx:Int) (h:eW l c=0):c.ok=true∧∃e,eN l c.year=some e∧lD l c dx=if dx=0∨bm dx (-100000) 100000=false then(none,1) else(gD c e dx,0):=by
 unfold eW lD at *
 by_cases h1:bz l≠0
 ·rw[if_pos h1] at h;exact absurd h h1
 ·rw[if_neg h1] at h ⊢
  by_cases h2:c.ok=false
  ·rw[if_pos h2] at h;omega
  ·rw[if_neg h2] at h ⊢
   cases hd:eN l c.year with
   | none=>rw[hd] at h;simp at h
   | some e=>exact⟨by simpa using h2,e,rfl,rfl⟩
theorem rK (w:World) (a:Option Addr) (cap:Nat) (l:List Vrn) (c:Crs) (g:Nat) (dx:Int) (hl:l.length≤9223372036854775807) (h:VrnsAt w a l) (hg:w.heap[g]?=some (.cells c.vals 46 (0,0))) :
 Calls prog 295 #[.slice a l.length cap,.slice (some ⟨g,0,none⟩) 1 1,.int .i64 dx] w fun r w'=>r=.returned (il (lD l c dx))∧Below w.heap.size w w':=by
 obtain⟨R,hR⟩:=ag (il (lD l c dx));rw[hR];have J0:=aa (show VC w a l g c w from⟨Below.refl _ _,h,hg⟩);have HC:=aa (fun W (J:VC w a l g c W)=>r9 W a cap l c g hl J.v J.k)
 by_cases h0:eW l c=0
 rotate_left
 ·rw[uX dx h0] at hR
  obtain⟨z,hz⟩:=ag (eW l c);rw[hz] at hR HC h0
  have hzb:(z != 0)=true:=by simpa using h0
  subst hR;clear h0 hz h hg;go_enter func295,ntmps295;go_wp2_with fail;refine(HC.out _ J0.out).mono ?_;rintro e w1 ⟨rfl,hb1⟩;go_wp2_with fail;refine bodyPost_ret (v:=il (none,z)) (by simp[results,results295,go_sem,il]) rfl ⟨rfl,hb1⟩
 obtain⟨hok,e,he,hE⟩:=A7 dx h0;rw[hE] at hR;rw[h0] at HC;have HST:=aa (fun W=>xD dx 0 W);have hr0:bm 0 (-100000) 100000=true:=rfl;rw[hr0] at HST
 by_cases h1:dx=0∨bm dx (-100000) 100000=false
 ·rw[if_pos h1] at hR
  subst hR;rw[if_pos (by rcases h1 with q|q;exact .inl q;exact .inr (.inl q))] at HST;clear h0 hE he hok h1 h hg hr0;go_enter func295,ntmps295;go_wp2_with fail;refine(HC.out _ J0.out).mono ?_;rintro e w1 ⟨rfl,hb1⟩;go_wp2_with fail;refine(HST.out _).mono ?_;rintro e w2 ⟨rfl,rfl⟩;go_wp2_with fail;refine bodyPost_ret (v:=il (none,1)) (by simp[results,results295,go_sem,il]) rfl ⟨rfl,hb1⟩
 rw[if_neg h1] at hR;rw[if_neg (by rintro(q|q|q);exact h1 (.inl q);exact h1 (.inr q);cases q)] at HST
 have hdx:dx≠0∧-100000≤dx∧dx≤100000:=by
  refine⟨fun q=>h1 (.inl q),?_⟩
  have:bm dx (-100000) 100000=true:=by
   cases q:bm dx (-100000) 100000
   ·exact absurd (.inr q) h1
   ·rfl
  exact dZ.1 this
 have HI:=aa (fun W (J:VC w a l g c W)=>zC W a cap l c e dx hok he hdx hl J.v)
 have hF:=fun p q=>nW (c:=c) (east:=e) (dx:=dx) (a:=p) (b:=q)
 obtain⟨r,hr⟩:=ag (gD c e dx);rw[hr] at HI hF hR;have HF:=aa hF;have HR:=aa hR;clear h0 hE he hok h1 h hg hr0 hr hdx hF hR;obtain⟨c1,c2,c3,c4,c5,c6⟩:=c
 unfold Crs.val Crs.vals at *
 dsimp only at *
 cases r with
 | none =>
   have hR:=HR.out;subst hR;clear HR HF;unfold dY at HI;dsimp only at HI;go_enter func295,ntmps295;go_wp2_with fail;refine(HC.out _ J0.out).mono ?_;rintro e w1 ⟨rfl,hb1⟩;have J1:=aa (J0.out.next hb1);clear hb1 J0 HC;go_wp2_with fail;refine(HST.out _).mono ?_;rintro e w2 ⟨rfl,rfl⟩;go_wp2_with fail
   go_loopw [6,7,38] (fun x y i wr=>i=.int .i64 0∧x=.int .i64 (-100000)∧y=.int .i64 100000∧Hid (VC w a l g ⟨c1,c2,c3,c4,c5,c6⟩ wr)) (fun _ _ _ _=>0)
   case atStart=>exact⟨rfl,rfl,rfl,J1⟩
   case round =>
    obtain⟨rfl,rfl,rfl,J⟩:=hrel;have hK:wr.heap[g]?=some (.cells #[.int .i64 c1,.int .i64 c2,.int .i64 c3,.int .i64 c4,.int .i64 c5,.int .i64 c6] 46 (0,0)):=J.out.k;have k0:=ce (i:=0) hK rfl;have k1:=ce (i:=1) hK rfl;have k2:=ce (i:=2) hK rfl;have k3:=ce (i:=3) hK rfl;have k4:=ce (i:=4) hK rfl;have k5:=ce (i:=5) hK rfl;clear hK;go_wp2_with fail;refine(HI.out _ (J.out.alloc _)).mono ?_;rintro e w4 ⟨rfl,hb4⟩;have J4:=aa ((J.out.alloc _).next hb4);go_wp2_with fail;refine bodyPost_ret (v:=il (none,0)) (by simp[results,results295,go_sem,il]) rfl ⟨rfl,J4.out.b⟩
 | some p =>
   have hR:=HR.out;subst hR;obtain⟨p1,p2⟩:=p;have hpb:=HF.out p1 p2 rfl;clear HR HF;unfold dY at HI;dsimp only at HI;go_enter func295,ntmps295;go_wp2_with fail;refine(HC.out _ J0.out).mono ?_;rintro e w1 ⟨rfl,hb1⟩;have J1:=aa (J0.out.next hb1);clear hb1 J0 HC;go_wp2_with fail;refine(HST.out _).mono ?_;rintro e w2 ⟨rfl,rfl⟩;go_wp2_with fail
   go_loopw [6,7,38] (fun x y i wr=>((i=.int .i64 0∧x=.int .i64 (-100000)∧y=.int .i64 100000)∨(i=.int .i64 1∧x=.int .i64 p1∧y=.int .i64 p2))∧Hid (VC w a l g ⟨c1,c2,c3,c4,c5,c6⟩ wr)) (fun _ _ i _=>1-(intOf i).toNat)
   case atStart=>exact⟨.inl ⟨rfl,rfl,rfl⟩,J1⟩
   case round =>
    obtain⟨⟨rfl,rfl,rfl⟩|⟨rfl,rfl,rfl⟩,J⟩:=hrel
    ·have hK:wr.heap[g]?=some (.cells #[.int .i64 c1,.int .i64 c2,.int .i64 c3,.int .i64 c4,.int .i64 c5,.int .i64 c6] 46 (0,0)):=J.out.k
     have k0:=ce (i:=0) hK rfl;have k1:=ce (i:=1) hK rfl;have k2:=ce (i:=2) hK rfl;have k3:=ce (i:=3) hK rfl;have k4:=ce (i:=4) hK rfl;have k5:=ce (i:=5) hK rfl;clear hK
     have m1:max (-100000) p1=p1:=by omega
     have m2:min 100000 p2=p2:=by omega
     go_wp2_with fail;refine(HI.out _ (J.out.alloc _)).mono ?_;rintro e w4 ⟨rfl,hb4⟩;have J4:=aa ((J.out.alloc _).next hb4);clear hb4;go_wp2_with fail;go_roundw
     case rel=>exact⟨.inr ⟨rfl,rfl,rfl⟩,J4⟩
     case measure=>simp[intOf]
    ·go_wp2_with fail
     refine bodyPost_ret (v:=il (some (p1,p2),0)) (by simp[results,results295,go_sem,il]) rfl ⟨rfl,J.out.b⟩
theorem yU {w:World} {a:Option Addr} {l:List Vrn} (h:VrnsAt w a l) (c:Crs):VC w a l w.heap.size c (w.alloc (.cells c.vals 46)):=⟨aD,h.alloc _,heap_alloc_new _ _⟩
theorem rV (w:World) (a:Option Addr) (cap:Nat) (l:List Vrn) (c:Crs) (dx:Int) (hl:l.length≤9223372036854775807) (h:VrnsAt w a l) :
 Calls prog 271 #[.slice a l.length cap,c.val,.int .i64 dx] w fun r w'=>r=.returned (il (lD l c dx))∧Below w.heap.size w w':=by
 obtain⟨w0,hw0⟩:∃W,W=w.alloc (.cells c.vals 46):=⟨_,rfl⟩;have J0:=aa (show VC w a l w.heap.size c w0 by rw[hw0];exact yU h c);have HC:=aa (fun W g (hv:VrnsAt W a l) (hg:W.heap[g]?=some (.cells c.vals 46 (0,0)))=>rK W a cap l c g dx hl hv hg);obtain⟨r,hr⟩:=ag (lD l c dx);rw[hr] at HC ⊢;obtain⟨c1,c2,c3,c4,c5,c6⟩:=c
 unfold Crs.val Crs.vals at *
 dsimp only at *
 have hK:w0.heap[w.heap.size]?=some (.cells #[.int .i64 c1,.int .i64 c2,.int .i64 c3,.int .i64 c4,.int .i64 c5,.int .i64 c6] 46 (0,0)):=J0.out.k;have k0:=ce (i:=0) hK rfl;have k1:=ce (i:=1) hK rfl;have k2:=ce (i:=2) hK rfl;have k3:=ce (i:=3) hK rfl;have k4:=ce (i:=4) hK rfl;have k5:=ce (i:=5) hK rfl;have hq:=J0.out.v;clear hK h hr;go_enter func271,ntmps271;go_upto_region 1 with fail;rw[←hw0];clear hw0;go_wp2_with (refine Great.wpList_buildSliceTo rfl 306 46 1 _ rfl _ rfl _ rfl underlying306 #[.int .i64 c1,.int .i64 c2,.int .i64 c3,.int .i64 c4,.int .i64 c5,.int .i64 c6] (by kernel_rfl) ?_);have JA:=J0.out.alloc (.cells #[.int .i64 c1,.int .i64 c2,.int .i64 c3,.int .i64 c4,.int .i64 c5,.int .i64 c6] 46);refine(HC.out _ _ JA.v (heap_alloc_new _ _)).mono ?_;rintro e w2 ⟨rfl,hb2⟩;have B2:=aa (JA.next hb2).b;clear hb2 JA hq;obtain⟨r1,r2⟩:=r
 cases r1 with
 | none =>
   unfold il;go_wp2_with fail;refine bodyPost_ret (v:=il (none,r2)) (by simp[results,results271,go_sem,il]) rfl ⟨rfl,B2.out⟩
 | some p =>
   unfold il;go_wp2_with fail;refine bodyPost_ret (v:=il (some p,r2)) (by simp[results,results271,go_sem,il]) rfl ⟨rfl,B2.out⟩
theorem ak {W:World} {b:Nat} {cs:Array Value} {t:TypeId} (h:W.heap[b]?=some (.cells cs t (0,0))):∀i,W.cell? ⟨b,i,none⟩=cs[i]?:=fun _i=>cell_of_row _ _ _ _ _ _ h
def Cll.vals (c:Cll):Array Value:=#[.int .u8 c.kind,.int .i64 c.limit,.int .i64 c.other,.int .i64 c.fr,.int .i64 c.tt,.int .i64 c.sz,.int .i64 c.er,.int .i64 c.crs.bearing,.int .i64 c.crs.needle,.int .i64 c.crs.links,.int .i64 c.crs.year,.int .i64 c.crs.wear,.int .i64 c.crs.slack]
def Cll.val (c:Cll):Value:=.agg c.vals
def bT (x:FV) (F:Fld) (c:Cll):Array Value:=#[.slice x.aS F.sts.length x.cS,.slice x.aL F.lms.length x.cL,.slice x.aP F.prs.length x.cP,.slice x.aV F.vrs.length x.cV,.int .u8 c.kind,.int .i64 c.limit,.int .i64 c.other,.int .i64 c.fr,.int .i64 c.tt,.int .i64 c.sz,.int .i64 c.er,.int .i64 c.crs.bearing,.int .i64 c.crs.needle,.int .i64 c.crs.links,.int .i64 c.crs.year,.int .i64 c.crs.wear,.int .i64 c.crs.slack]
def cK (x:FV) (F:Fld) (c:Cll):Obj:=.cells (bT x F c) 245 (0,0)
theorem sH (w:World) (v:Int) (b:Nat) (x:FV) (F:Fld) (c:Cll) (hl:F.lms.length≤4000) (h:w.heap[b]?=some (cK x F c)) :
 Calls prog 338 #[.int .i64 v,.pointer (some ⟨b,0,none⟩)] w fun e w'=>e=.returned (.bool (!bZ F v))∧w=w':=by
 have kk:=ak h;have HI:=aa (fun W=>gF v 0 ((F.lms.length:Int)-1) W);unfold bZ;obtain⟨q,hq⟩:=ag (bm v 0 ((F.lms.length:Int)-1));rw[hq] at HI ⊢;unfold bT at kk;clear h hq;go_enter func338,ntmps338;go_wp2_with fail;refine(HI.out _).mono ?_;rintro e w1 ⟨rfl,rfl⟩;go_wp2_with fail;go_ret;exact⟨rfl,rfl⟩
theorem pE (w:World) (v:Int) (b:Nat) (x:FV) (F:Fld) (c:Cll) (hl:F.sts.length≤4000) (h:w.heap[b]?=some (cK x F c)) :
 Calls prog 339 #[.int .i64 v,.pointer (some ⟨b,0,none⟩)] w fun e w'=>e=.returned (.bool (!aY F v))∧w=w':=by
 have kk:=ak h;have HI:=aa (fun W=>gF v 0 ((F.sts.length:Int)-1) W);unfold aY;obtain⟨q,hq⟩:=ag (bm v 0 ((F.sts.length:Int)-1));rw[hq] at HI ⊢;unfold bT at kk;clear h hq;go_enter func339,ntmps339;go_wp2_with fail;refine(HI.out _).mono ?_;rintro e w1 ⟨rfl,rfl⟩;go_wp2_with fail;go_ret;exact⟨rfl,rfl⟩
theorem fu (w:World) (x:FV) (F:Fld) (c:Cll) (a:Option Addr) (cap:Nat) (ls:List Int) (hn:ls.length≤4000) (hl:F.lms.length≤4000) (h:IntsAt w a ls) :
 Calls prog 314 #[.agg (bT x F c),.slice a ls.length cap] w fun e w'=>e=.returned (.bool (ls.all (bZ F)))∧Below w.heap.size w w':=by
 obtain⟨w0,hw0⟩:∃W,W=w.alloc (.cells (bT x F c) 245):=⟨_,rfl⟩;have hb0:=aa (show Below w.heap.size w w0 by rw[hw0];exact aD);have hx0:=(show w0.heap[w.heap.size]?=some (cK x F c) by rw[hw0];exact heap_alloc_new _ _)
 have HC:=aa (cF w0 a cap ls 338 #[.pointer (some ⟨w.heap.size,0,none⟩)] (fun v=>!bZ F v) (by omega) (by rw[hw0];exact h.alloc _)
  (fun k hk W hb=>(sH W ls[k] w.heap.size x F c hl (ac hb (lt_of_block hx0) hx0)).mono fun _ _ ⟨he,hw⟩=>⟨he,hw▸Below.refl _ _⟩) (enters_of func338 (by kernel_rfl) rfl))
 have hq:(!ls.any fun v=>!bZ F v)=ls.all (bZ F):=by rw[List.all_eq_not_any_not]
 rw[←hq];obtain⟨q,hq2⟩:=ag (ls.any fun v=>!bZ F v);rw[hq2] at HC ⊢
 unfold bT at *
 clear hq hq2 hx0;go_enter func314,ntmps314;go_upto_region 1 with fail;rw[←hw0];clear hw0;go_wp2_with fail;refine HC.out.mono ?_;rintro e w1 ⟨rfl,hb1⟩;go_wp2_with fail;go_ret;exact⟨rfl,bB hb0.out hb1⟩
theorem dS (w:World) (x:FV) (F:Fld) (c:Cll) (a:Option Addr) (cap:Nat) (ls:List Int) (hn:ls.length≤4000) (hl:F.sts.length≤4000) (h:IntsAt w a ls) :
 Calls prog 315 #[.agg (bT x F c),.slice a ls.length cap] w fun e w'=>e=.returned (.bool (ls.all (aY F)))∧Below w.heap.size w w':=by
 obtain⟨w0,hw0⟩:∃W,W=w.alloc (.cells (bT x F c) 245):=⟨_,rfl⟩;have hb0:=aa (show Below w.heap.size w w0 by rw[hw0];exact aD);have hx0:=(show w0.heap[w.heap.size]?=some (cK x F c) by rw[hw0];exact heap_alloc_new _ _)
 have HC:=aa (cF w0 a cap ls 339 #[.pointer (some ⟨w.heap.size,0,none⟩)] (fun v=>!aY F v) (by omega) (by rw[hw0];exact h.alloc _)
  (fun k hk W hb=>(pE W ls[k] w.heap.size x F c hl (ac hb (lt_of_block hx0) hx0)).mono fun _ _ ⟨he,hw⟩=>⟨he,hw▸Below.refl _ _⟩) (enters_of func339 (by kernel_rfl) rfl))
 have hq:(!ls.any fun v=>!aY F v)=ls.all (aY F):=by rw[List.all_eq_not_any_not]
 rw[←hq];obtain⟨q,hq2⟩:=ag (ls.any fun v=>!aY F v);rw[hq2] at HC ⊢
 unfold bT at *
 clear hq hq2 hx0;go_enter func315,ntmps315;go_upto_region 1 with fail;rw[←hw0];clear hw0;go_wp2_with fail;refine HC.out.mono ?_;rintro e w1 ⟨rfl,hb1⟩;go_wp2_with fail;go_ret;exact⟨rfl,bB hb0.out hb1⟩
theorem lY (w:World) (x:FV) (F:Fld) (c:Cll) (lo:Int) :
 Calls prog 316 #[.agg (bT x F c),.int .i64 lo] w fun e w'=>e=.returned (.bool (dQ c lo))∧Below w.heap.size w w':=by
 have H1:=aa (fun W=>gF c.sz lo 100000 W);have H2:=aa (fun W=>gF c.er 0 100000 W);unfold dQ;obtain⟨p,hp⟩:=ag (bm c.sz lo 100000);obtain⟨q,hq⟩:=ag (bm c.er 0 100000);rw[hp] at H1 ⊢;rw[hq] at H2 ⊢;unfold bT;clear hp hq;cases p
 rotate_left
 all_goals
  go_enter func316,ntmps316;go_wp2_with (go_at_call 137;(first|with_reducible refine(H1.out _).mono ?_|with_reducible refine(H2.out _).mono ?_);rintro e w1 ⟨rfl,rfl⟩);go_ret;exact⟨by simp,by go_grown⟩
def dV (N:Nat) (bs:List Bd) (a:Nat):List Int:=(List.range N).map fun b=>nV (aF N bs a b)
def dB (N:Nat) (bs:List Bd) (a:Nat):List Bool:=(List.range N).map fun b=>nB (aF N bs a b)
def sJ (N:Nat) (bs cs:List Bd) (a:Nat):Bool:=decide (dV N bs a=dV N cs a)&&decide (dB N bs a=dB N cs a)
def ia (N:Nat) (bs cs:List Bd):Bool:=(List.range N).all fun a=>sJ N bs cs a
theorem jy {N:Nat} {bs:List Bd} {a:Nat} (h:bc N bs [(a:Int)]=0):em N bs a=(dV N bs a,dB N bs a,0):=by
 unfold em;rw[if_pos h]
 rfl
theorem yF (N:Nat) (bs:List Bd) (a:Nat):(dV N bs a).length=N:=by simp[dV]
theorem zf (N:Nat) (bs:List Bd) (a:Nat):(dB N bs a).length=N:=by simp[dB]
theorem xS (w:World) (N:Nat) (hN:N≤128) (o:Option Addr) (c:Nat) (bs:List Bd) (o2:Option Addr) (c2:Nat) (cs:List Bd) (hl:bs.length≤9223372036854775807) (hl2:cs.length≤9223372036854775807) (h:BoundsAt w o bs) (h2:BoundsAt w o2 cs)
 (q1:∀a:Nat,a<N→bc N bs [(a:Int)]=0) (q2:∀a:Nat,a<N→bc N cs [(a:Int)]=0) :
 Calls prog 97 #[.agg #[.int .i64 N,.slice o bs.length c],.agg #[.int .i64 N,.slice o2 cs.length c2]] w fun e w'=>e=.returned (.bool (ia N bs cs))∧Below w.heap.size w w':=by
 obtain⟨w0,hw0⟩:∃W,W=(w.alloc (.cells #[.int .i64 N,.slice o bs.length c] 61)).alloc (.cells #[.int .i64 N,.slice o2 cs.length c2] 61):=⟨_,rfl⟩;have B0:=aa (show Below w.heap.size w w0 by rw[hw0];exact(aD).alloc (by simp) _)
 have X0:=aa (show Kb [(w.heap.size+1,.cells #[.int .i64 N,.slice o2 cs.length c2] 61),(w.heap.size,.cells #[.int .i64 N,.slice o bs.length c] 61)] w0 by
  rw[hw0];have:=Kb.alloc (o:=.cells #[.int .i64 N,.slice o2 cs.length c2] 61) (Kb.alloc (W:=w) (o:=.cells #[.int .i64 N,.slice o bs.length c] 61) (L:=[]) trivial)
  simpa using this)
 have hok:bK (N:Int):=by unfold bK;omega
 have HD1:=aa (fun W (a:Nat) (hb:Below w0.heap.size w0 W) (ha:a<N)=>(by
  have:=iW W N o c bs a hok hl ((h.below B0.out (Nat.le_refl _)).below hb (Nat.le_refl _));rw[jy (q1 a ha)] at this
  exact this))
 have HD2:=aa (fun W (a:Nat) (hb:Below w0.heap.size w0 W) (ha:a<N)=>(by
  have:=iW W N o2 c2 cs a hok hl2 ((h2.below B0.out (Nat.le_refl _)).below hb (Nat.le_refl _));rw[jy (q2 a ha)] at this
  exact this))
 obtain⟨LB,hLB⟩:=ag bs.length;obtain⟨LC,hLC⟩:=ag cs.length;rw[hLB] at HD1;rw[hLC] at HD2;rw[hLB,hLC] at X0 hw0 ⊢;have HN:=aa hN;clear h h2 hl hl2 q1 q2 hok hLB hLC hN;have k1:=ak X0.out.1;have k2:=ak X0.out.2.1;go_enter func97,ntmps97;go_upto_region 1 with fail;rw[←hw0];clear hw0;go_wp2_with fail;clear k1 k2
 go_loopw [14] (fun i wr=>∃k:Nat,k≤N∧i=.int .i64 k∧Hid (∀a,a<k→sJ N bs cs a=true)∧Hid (Below w0.heap.size w0 wr)) (fun i _=>N-(intOf i).toNat)
 case atStart=>exact⟨0,Nat.zero_le _,rfl,aa (fun a ha=>absurd ha (Nat.not_lt_zero _)),aa (Below.refl _ _)⟩
 case round =>
  obtain⟨k,hk,rfl,hall,hb⟩:=hrel;have hN2:=HN.out
  by_cases hlt:k<N
  ·have k1:=ak (X0.out.next hb.out).1
   have k2:=ak (X0.out.next hb.out).2.1;have HC1:=aa (HD1.out wr k hb.out hlt);have HC2:=aa (fun W (z:Below w0.heap.size w0 W)=>HD2.out W k z hlt);obtain⟨V1,hV1⟩:=ag (dV N bs k);obtain⟨V2,hV2⟩:=ag (dV N cs k);obtain⟨U1,hU1⟩:=ag (dB N bs k);obtain⟨U2,hU2⟩:=ag (dB N cs k);have HROW:=aa (show sJ N bs cs k=(decide (V1=V2)&&decide (U1=U2)) by unfold sJ;rw[hV1,hV2,hU1,hU2])
   have HLL:=aa (show V1.length≤9223372036854775807∧V2.length≤9223372036854775807∧U1.length≤9223372036854775807∧U2.length≤9223372036854775807 by
    have:=HN.out
    have:=yF N bs k;have:=yF N cs k;have:=zf N bs k;have:=zf N cs k
    rw[hV1] at *;rw[hV2] at *;rw[hU1] at *;rw[hU2] at *
    omega)
   rw[hV1,hU1] at HC1;rw[hV2,hU2] at HC2;clear hV1 hV2 hU1 hU2;go_wp2_with fail;refine HC1.out.mono ?_;rintro e w1 ⟨⟨a1,c1,a2,c2,rfl,h1,h2⟩,hb1⟩;have H1:=aa h1;have H2:=aa h2;have B1:=bU hb hb1;have k3:=ak (X0.out.next B1.out).1;clear h1 h2 hb1 k1 k2 HC1;go_wp2_with fail;refine(HC2.out w1 B1.out).mono ?_;rintro e w2 ⟨⟨a3,c3,a4,c4,rfl,h3,h4⟩,hb2⟩;have HV:=aa (uk w2 a1 c1 V1 a3 c3 V2 (H1.out.below hb2 (Nat.le_refl _)) h3 HLL.out.1 HLL.out.2.1);have B2:=bU B1 hb2;have HU:=aa (fun W (z:Below w2.heap.size w2 W)=>vP W a2 c2 U1 a4 c4 U2 ((H2.out.below hb2 (Nat.le_refl _)).below z (Nat.le_refl _)) (h4.below z (Nat.le_refl _)) HLL.out.2.2.1 HLL.out.2.2.2);clear h3 h4 hb2 k3 HC2 H1 H2;obtain⟨b1,hb1⟩:=ag (decide (V1=V2));obtain⟨b2,hb2⟩:=ag (decide (U1=U2));rw[hb1] at HV HROW;rw[hb2] at HU HROW;obtain⟨n1,hn1⟩:=ag V1.length;obtain⟨n2,hn2⟩:=ag V2.length;obtain⟨n3,hn3⟩:=ag U1.length;obtain⟨n4,hn4⟩:=ag U2.length;rw[hn1,hn2] at HV;rw[hn3,hn4] at HU;simp only[hn1,hn2,hn3,hn4];clear hb1 hb2 hn1 hn2 hn3 hn4;cases b1
   ·go_wp2_with fail
    refine HV.out.mono ?_;rintro e w3 ⟨rfl,hb3⟩;have B3:=bU B2 hb3;clear hb3;go_wp2_with fail;go_ret;refine⟨?_,bB B0.out B3.out⟩
    have:ia N bs cs=false:=by
     unfold ia;rw[List.all_eq_false];exact⟨k,List.mem_range.2 hlt,by rw[HROW.out];simp⟩
    rw[this];rfl
   ·go_wp2_with fail
    refine HV.out.mono ?_;rintro e w3 ⟨rfl,hb3⟩;have B3:=bU B2 hb3;have HU3:=aa (HU.out w3 hb3);clear hb3;go_wp2_with fail;refine HU3.out.mono ?_;rintro e w4 ⟨rfl,hb4⟩;have B4:=bU B3 hb4;clear hb4;cases b2
    ·go_wp2_with fail
     go_ret;refine⟨?_,bB B0.out B4.out⟩
     have:ia N bs cs=false:=by
      unfold ia;rw[List.all_eq_false];exact⟨k,List.mem_range.2 hlt,by rw[HROW.out];simp⟩
     rw[this];rfl
    ·go_wp2_with fail
     go_roundw
     case rel=>exact⟨k+1,by omega,by go_num,aa (fun a ha=>by
      by_cases q:a<k
      ·exact hall.out a q
      ·rw[show a=k by omega,HROW.out];rfl),B4⟩
     case measure=>simp[intOf];omega
  ·go_wp2_with fail
   go_ret;refine⟨?_,bB B0.out hb.out⟩
   have:ia N bs cs=true:=by
    unfold ia;rw[List.all_eq_true]
    exact fun a ha=>hall.out a (by have:=List.mem_range.1 ha;omega)
   rw[this];rfl
theorem BO:Tryz.prog.underlying 48=some (.struct (Tryz.prog.fieldsOf 48)):=by kernel_rfl
theorem BV:Tryz.prog.underlying 46=some (.struct (Tryz.prog.fieldsOf 46)):=by kernel_rfl
theorem BR:Tryz.prog.underlying 44=some (.struct (Tryz.prog.fieldsOf 44)):=by kernel_rfl
theorem Ca:Tryz.prog.stoodInHeld 48=false:=by kernel_rfl
theorem BN:Tryz.prog.stoodInHeld 46=false:=by kernel_rfl
theorem BZ:Tryz.prog.stoodInHeld 44=false:=by kernel_rfl
theorem kv (op:BinOp) (x y:Operand) (xs ys:Array Value) (w:World):(eqGuard op 48 x y (.agg xs) (.agg ys)).run prog w=.ok () w:=run_eqGuard_agg w op 48 x y xs ys (by kernel_rfl)
theorem BD (d:Nat) (a b c e:Int) (w:World):(Op.equalIn (d+2) 44 (.agg #[.int .i64 a,.int .i64 b]) (.agg #[.int .i64 c,.int .i64 e])).run prog w=.ok (decide (a=c)&&decide (b=e)) w:=by
 rw[run_equalIn_agg w (d+1) 44 _ _ BR BZ];simp[Program.fieldsOf,underlying44,Op.eqFields,go_sem,part]
 by_cases h1:a=c<;>by_cases h2:b=e<;>simp[h1,h2]
theorem BA (d:Nat) (a b:Crs) (w:World):(Op.equalIn (d+3) 46 (.agg a.vals) (.agg b.vals)).run prog w=.ok (decide (a=b)) w:=by
 rw[run_equalIn_agg w (d+2) 46 _ _ BV BN];obtain⟨a1,a2,a3,a4,a5,a6⟩:=a;obtain⟨b1,b2,b3,b4,b5,b6⟩:=b;have h44:=BD (d:=d) a5 a6 b5 b6;simp[Program.fieldsOf,underlying46,Op.eqFields,go_sem,part,Crs.vals,h44]
 by_cases h1:a1=b1<;>by_cases h2:a2=b2<;>by_cases h3:a3=b3<;>by_cases h4:a4=b4<;>by_cases h5:a5=b5<;>by_cases h6:a6=b6<;>simp[h1,h2,h3,h4,h5,h6]
theorem tG (a b:Cll) (w:World):(binOp .eql 48 (.agg a.vals) (.agg b.vals)).run prog w=.ok (.bool (decide (a=b))) w:=by
 rw[run_eql_struct,run_equalIn_agg w 9999 48 _ _ BO Ca];obtain⟨a1,a2,a3,a4,a5,a6,a7,a8⟩:=a;obtain⟨b1,b2,b3,b4,b5,b6,b7,b8⟩:=b;have h46:=BA (d:=9996) a8 b8;unfold Crs.vals at h46;simp[Program.fieldsOf,underlying48,Op.eqFields,go_sem,part,Cll.vals,h46]
 (repeat' split)<;>simp_all
theorem ah {P:Program} {ops:Array Oper} {rest:List Oper} {o:Oper} {a:Act} {w:World} {Q:Exit→Act→World→Prop} (hw:Region.wanted o (yielded ops a.tmps)=true) (ty:TypeId) (x:Operand) (ho:o.op=.load ty x) (dst:Option Tmp) (hdst:o.dst=dst)
 (g:Nat) (hx:a.eval x=.pointer (some ⟨g,0,none⟩)) (t:TypeId) (cs:Array Value) (fr:Nat×Nat) (d:TypeDesc) (hg:w.heap[g]?=some (.cells cs t fr))
 (hu:P.underlying ty=some d) (hd:(match d with|.struct _|.array _ _=>true|_=>false)=true) (hi:(P.info? ty).map (·.size)=some cs.size)
 (h:wpList P ops Q rest (a.put dst (.agg cs)) w):wpList P ops Q (o::rest) a w :=
 wpList_step fun K hK=>by
  subst hdst;rw[if_pos hw];exact wp_load_row ty x ho g hx t cs fr d hg hu hd hi (hK _ _ h)
structure CJ (w:World) (x:FV) (F:Fld) (c:Cll) (W:World):Prop where
 b:Below w.heap.size w W
 k:W.heap[w.heap.size]?=some (cK x F c)
theorem CJ.next {w W W':World} {x:FV} {F:Fld} {c:Cll} (h:CJ w x F c W) (hb:Below W.heap.size W W'):CJ w x F c W':=⟨bB h.b hb,ac hb (lt_of_block h.k) h.k⟩
theorem CJ.start (w:World) (x:FV) (F:Fld) (c:Cll):CJ w x F c (w.alloc (.cells (bT x F c) 245)):=⟨aD,heap_alloc_new _ _⟩
theorem tB {W:World} {g:Nat} {l:List Int} (h:W.heap[g]?=some (.cells (l.map (Value.int .i64)).toArray 3 (0,0))):IntsAt W (some ⟨g,0,none⟩) l :=
 .inr ⟨g,0,rfl,lt_of_block h,fun i hi=>by rw[cell_of_row _ _ _ _ _ _ h];simp[hi]⟩
theorem e8 (W:World) (a:Int):IntsAt (W.alloc (.cells #[.int .i64 a] 3)) (some ⟨W.heap.size,0,none⟩) [a]:=tB (heap_alloc_new _ _)
theorem gQ (W:World) (a b:Int):IntsAt (W.alloc (.cells #[.int .i64 a,.int .i64 b] 3)) (some ⟨W.heap.size,0,none⟩) [a,b]:=tB (heap_alloc_new _ _)
theorem xf (w:World) (x:FV) (F:Fld) (c:Cll) (hl:F.lms.length≤4000) (hs:F.sts.length≤4000) :
 Calls prog 285 #[.agg (bT x F c)] w fun e w'=>e=.returned (.bool (jQ F c))∧Below w.heap.size w w':=by
 obtain⟨w0,hw0⟩:∃W,W=w.alloc (.cells (bT x F c) 245):=⟨_,rfl⟩;have J0:=aa (show CJ w x F c w0 by rw[hw0];exact CJ.start _ _ _ _);obtain⟨R,hR⟩:=ag (jQ F c);rw[hR];obtain⟨kind,limit,other,fr,tt,sz,er,c1,c2,c3,c4,c5,c6⟩:=c;obtain⟨w1,hw1⟩:∃W,W=w0.alloc (.cells #[.int .u8 kind,.int .i64 limit,.int .i64 0,.int .i64 fr,.int .i64 0,.int .i64 sz,.int .i64 er,.int .i64 0,.int .i64 0,.int .i64 0,.int .i64 0,.int .i64 0,.int .i64 0] 48):=⟨_,rfl⟩;have J1:=aa (show CJ w x F ⟨kind,limit,other,fr,tt,sz,er,⟨c1,c2,c3,c4,c5,c6⟩⟩ w1 by rw[hw1];exact J0.out.next (aD));have hx1:=(show Kb [(w0.heap.size,.cells #[.int .u8 kind,.int .i64 limit,.int .i64 0,.int .i64 fr,.int .i64 0,.int .i64 sz,.int .i64 er,.int .i64 0,.int .i64 0,.int .i64 0,.int .i64 0,.int .i64 0,.int .i64 0] 48)] w1 by rw[hw1];exact Kb.alloc trivial);have kk:=ak J0.out.k;have k1:=ak J1.out.k;have k2:=ak hx1.1;unfold bT at kk k1
 dsimp only at *
 clear hx1
 have XE:=fun(W:World)=>tG (⟨kind,limit,other,fr,tt,sz,er,⟨c1,c2,c3,c4,c5,c6⟩⟩:Cll) (⟨kind,limit,0,fr,0,sz,er,⟨0,0,0,0,0,0⟩⟩:Cll) W
 have XG:=fun(op:BinOp) (x y:Operand) (xs ys:Array Value) (W:World)=>kv op x y xs ys W
 have hM:R=(decide ((⟨kind,limit,other,fr,tt,sz,er,⟨c1,c2,c3,c4,c5,c6⟩⟩:Cll)=⟨kind,limit,0,fr,0,sz,er,⟨0,0,0,0,0,0⟩⟩)&&[limit].all (bZ F)&&[fr].all (aY F)&&dQ ⟨kind,limit,other,fr,tt,sz,er,⟨c1,c2,c3,c4,c5,c6⟩⟩ 0):=by
  rw[←hR];unfold jQ;simp[crs0,Bool.and_assoc]
 have H0:=aa (fun W=>fu (W.alloc (.cells #[.int .i64 limit] 3)) x F ⟨kind,limit,other,fr,tt,sz,er,⟨c1,c2,c3,c4,c5,c6⟩⟩ (some ⟨W.heap.size,0,none⟩) 1 [limit] (by simp) hl (e8 W limit));have H1:=aa (fun W=>dS (W.alloc (.cells #[.int .i64 fr] 3)) x F ⟨kind,limit,other,fr,tt,sz,er,⟨c1,c2,c3,c4,c5,c6⟩⟩ (some ⟨W.heap.size,0,none⟩) 1 [fr] (by simp) hs (e8 W fr));have H2:=aa (fun W=>lY W x F ⟨kind,limit,other,fr,tt,sz,er,⟨c1,c2,c3,c4,c5,c6⟩⟩ 0);obtain⟨p0,hp0⟩:=ag ([limit].all (bZ F));rw[hp0] at hM H0;clear hp0;obtain⟨p1,hp1⟩:=ag ([fr].all (aY F));rw[hp1] at hM H1;clear hp1;obtain⟨p2,hp2⟩:=ag (dQ ⟨kind,limit,other,fr,tt,sz,er,⟨c1,c2,c3,c4,c5,c6⟩⟩ 0);rw[hp2] at hM H2;clear hp2;obtain⟨q,hq⟩:=ag (decide ((⟨kind,limit,other,fr,tt,sz,er,⟨c1,c2,c3,c4,c5,c6⟩⟩:Cll)=⟨kind,limit,0,fr,0,sz,er,⟨0,0,0,0,0,0⟩⟩));rw[hq] at hM XE;clear hq;unfold Cll.vals at XE;dsimp only at XE;have HM:=aa hM;clear hM hR
 try unfold Crs.val Crs.vals at *
 try dsimp only at *
 go_enter func285,ntmps285;go_upto_region 1 with fail;rw[←hw0];clear hw0;go_upto_region 2 with fail;rw[←hw1];clear hw1 kk J0;obtain⟨u0,rfl⟩:∃z:World,z=w1:=⟨w1,rfl⟩;have Q0:=J1;clear J1
 cases q with
 | false =>
   obtain rfl:R=false:=by rw[HM.out];simp
   go_wp2_with fail;go_ret;exact⟨rfl,Q0.out.b⟩
 | true =>
   go_wp2_with (refine ah rfl 245 _ rfl _ rfl w.heap.size rfl 245 _ (0,0) _ Q0.out.k underlying245 rfl (by kernel_rfl) ?_);refine(H0.out _).mono ?_;rintro e u1 ⟨rfl,hb1⟩;have Q1:=aa (Q0.out.next ((aD).trans (hb1.mono (by simp))));clear hb1 Q0 k1 k2;have k1:=ak Q1.out.k;unfold bT at k1;dsimp only at k1
   cases p0 with
   | false =>
     obtain rfl:R=false:=by rw[HM.out];simp
     go_wp2_with fail;go_ret;exact⟨rfl,Q1.out.b⟩
   | true =>
     go_wp2_with (refine ah rfl 245 _ rfl _ rfl w.heap.size rfl 245 _ (0,0) _ Q1.out.k underlying245 rfl (by kernel_rfl) ?_);refine(H1.out _).mono ?_;rintro e u2 ⟨rfl,hb2⟩;have Q2:=aa (Q1.out.next ((aD).trans (hb2.mono (by simp))));clear hb2 Q1 k1;have k1:=ak Q2.out.k;unfold bT at k1;dsimp only at k1
     cases p1 with
     | false =>
       obtain rfl:R=false:=by rw[HM.out];simp
       go_wp2_with fail;go_ret;exact⟨rfl,Q2.out.b⟩
     | true =>
       go_wp2_with (refine ah rfl 245 _ rfl _ rfl w.heap.size rfl 245 _ (0,0) _ Q2.out.k underlying245 rfl (by kernel_rfl) ?_);refine(H2.out _).mono ?_;rintro e u3 ⟨rfl,hb3⟩;have Q3:=aa (Q2.out.next hb3);clear hb3 Q2 k1;have k1:=ak Q3.out.k;unfold bT at k1;dsimp only at k1
       cases p2 with
       | false =>
         obtain rfl:R=false:=by rw[HM.out];simp
         go_wp2_with fail;go_ret;exact⟨rfl,Q3.out.b⟩
       | true =>
         obtain rfl:R=true:=by rw[HM.out];simp
         go_wp2_with (refine ah rfl 245 _ rfl _ rfl w.heap.size rfl 245 _ (0,0) _ Q3.out.k underlying245 rfl (by kernel_rfl) ?_);go_ret;exact⟨rfl,Q3.out.b⟩
theorem yf (w:World) (x:FV) (F:Fld) (c:Cll) (hl:F.lms.length≤4000) (hs:F.sts.length≤4000) :
 Calls prog 287 #[.agg (bT x F c)] w fun e w'=>e=.returned (.bool (jN F c))∧Below w.heap.size w w':=by
 obtain⟨w0,hw0⟩:∃W,W=w.alloc (.cells (bT x F c) 245):=⟨_,rfl⟩;have J0:=aa (show CJ w x F c w0 by rw[hw0];exact CJ.start _ _ _ _);obtain⟨R,hR⟩:=ag (jN F c);rw[hR];obtain⟨kind,limit,other,fr,tt,sz,er,c1,c2,c3,c4,c5,c6⟩:=c;obtain⟨w1,hw1⟩:∃W,W=w0.alloc (.cells #[.int .u8 kind,.int .i64 limit,.int .i64 other,.int .i64 fr,.int .i64 0,.int .i64 sz,.int .i64 er,.int .i64 0,.int .i64 0,.int .i64 0,.int .i64 0,.int .i64 0,.int .i64 0] 48):=⟨_,rfl⟩;have J1:=aa (show CJ w x F ⟨kind,limit,other,fr,tt,sz,er,⟨c1,c2,c3,c4,c5,c6⟩⟩ w1 by rw[hw1];exact J0.out.next (aD));have hx1:=(show Kb [(w0.heap.size,.cells #[.int .u8 kind,.int .i64 limit,.int .i64 other,.int .i64 fr,.int .i64 0,.int .i64 sz,.int .i64 er,.int .i64 0,.int .i64 0,.int .i64 0,.int .i64 0,.int .i64 0,.int .i64 0] 48)] w1 by rw[hw1];exact Kb.alloc trivial);have kk:=ak J0.out.k;have k1:=ak J1.out.k;have k2:=ak hx1.1;unfold bT at kk k1
 dsimp only at *
 clear hx1
 have XE:=fun(W:World)=>tG (⟨kind,limit,other,fr,tt,sz,er,⟨c1,c2,c3,c4,c5,c6⟩⟩:Cll) (⟨kind,limit,other,fr,0,sz,er,⟨0,0,0,0,0,0⟩⟩:Cll) W
 have XG:=fun(op:BinOp) (x y:Operand) (xs ys:Array Value) (W:World)=>kv op x y xs ys W
 have hM:R=(decide ((⟨kind,limit,other,fr,tt,sz,er,⟨c1,c2,c3,c4,c5,c6⟩⟩:Cll)=⟨kind,limit,other,fr,0,sz,er,⟨0,0,0,0,0,0⟩⟩)&&[limit,other].all (bZ F)&&decide (limit<other)&&[fr].all (aY F)&&dQ ⟨kind,limit,other,fr,tt,sz,er,⟨c1,c2,c3,c4,c5,c6⟩⟩ 0):=by
  rw[←hR];unfold jN;simp[crs0,Bool.and_assoc]
 have H0:=aa (fun W=>fu (W.alloc (.cells #[.int .i64 limit,.int .i64 other] 3)) x F ⟨kind,limit,other,fr,tt,sz,er,⟨c1,c2,c3,c4,c5,c6⟩⟩ (some ⟨W.heap.size,0,none⟩) 2 [limit,other] (by simp) hl (gQ W limit other));have H2:=aa (fun W=>dS (W.alloc (.cells #[.int .i64 fr] 3)) x F ⟨kind,limit,other,fr,tt,sz,er,⟨c1,c2,c3,c4,c5,c6⟩⟩ (some ⟨W.heap.size,0,none⟩) 1 [fr] (by simp) hs (e8 W fr));have H3:=aa (fun W=>lY W x F ⟨kind,limit,other,fr,tt,sz,er,⟨c1,c2,c3,c4,c5,c6⟩⟩ 0);obtain⟨p0,hp0⟩:=ag ([limit,other].all (bZ F));rw[hp0] at hM H0;clear hp0;obtain⟨p2,hp2⟩:=ag ([fr].all (aY F));rw[hp2] at hM H2;clear hp2;obtain⟨p3,hp3⟩:=ag (dQ ⟨kind,limit,other,fr,tt,sz,er,⟨c1,c2,c3,c4,c5,c6⟩⟩ 0);rw[hp3] at hM H3;clear hp3;obtain⟨q,hq⟩:=ag (decide ((⟨kind,limit,other,fr,tt,sz,er,⟨c1,c2,c3,c4,c5,c6⟩⟩:Cll)=⟨kind,limit,other,fr,0,sz,er,⟨0,0,0,0,0,0⟩⟩));rw[hq] at hM XE;clear hq;unfold Cll.vals at XE;dsimp only at XE;have HM:=aa hM;clear hM hR
 try unfold Crs.val Crs.vals at *
 try dsimp only at *
 go_enter func287,ntmps287;go_upto_region 1 with fail;rw[←hw0];clear hw0;go_upto_region 2 with fail;rw[←hw1];clear hw1 kk J0;obtain⟨u0,rfl⟩:∃z:World,z=w1:=⟨w1,rfl⟩;have Q0:=J1;clear J1
 cases q with
 | false =>
   obtain rfl:R=false:=by rw[HM.out];simp
   go_wp2_with fail;go_ret;exact⟨rfl,Q0.out.b⟩
 | true =>
   go_wp2_with (refine ah rfl 245 _ rfl _ rfl w.heap.size rfl 245 _ (0,0) _ Q0.out.k underlying245 rfl (by kernel_rfl) ?_);refine(H0.out _).mono ?_;rintro e u1 ⟨rfl,hb1⟩;have Q1:=aa (Q0.out.next ((aD).trans (hb1.mono (by simp))));clear hb1 Q0 k1 k2;have k1:=ak Q1.out.k;unfold bT at k1;dsimp only at k1
   cases p0 with
   | false =>
     obtain rfl:R=false:=by rw[HM.out];simp
     go_wp2_with fail;go_ret;exact⟨rfl,Q1.out.b⟩
   | true =>
     by_cases q1:limit<other
     rotate_left
     ·obtain rfl:R=false:=by rw[HM.out,decide_eq_false q1];simp
      go_wp2_with fail;go_ret
      first|exact⟨rfl,Q1.out.b⟩|(refine⟨?_,Q1.out.b⟩;simp;omega)
     rw[decide_eq_true q1] at HM;go_wp2_with (refine ah rfl 245 _ rfl _ rfl w.heap.size rfl 245 _ (0,0) _ Q1.out.k underlying245 rfl (by kernel_rfl) ?_);refine(H2.out _).mono ?_;rintro e u2 ⟨rfl,hb2⟩;have Q2:=aa (Q1.out.next ((aD).trans (hb2.mono (by simp))));clear hb2 Q1 k1;have k1:=ak Q2.out.k;unfold bT at k1;dsimp only at k1
     cases p2 with
     | false =>
       obtain rfl:R=false:=by rw[HM.out];simp
       go_wp2_with fail;go_ret;exact⟨rfl,Q2.out.b⟩
     | true =>
       go_wp2_with (refine ah rfl 245 _ rfl _ rfl w.heap.size rfl 245 _ (0,0) _ Q2.out.k underlying245 rfl (by kernel_rfl) ?_);refine(H3.out _).mono ?_;rintro e u3 ⟨rfl,hb3⟩;have Q3:=aa (Q2.out.next hb3);clear hb3 Q2 k1;have k1:=ak Q3.out.k;unfold bT at k1;dsimp only at k1
       cases p3 with
       | false =>
         obtain rfl:R=false:=by rw[HM.out];simp
         go_wp2_with fail;go_ret;exact⟨rfl,Q3.out.b⟩
       | true =>
         obtain rfl:R=true:=by rw[HM.out];simp
         go_wp2_with (refine ah rfl 245 _ rfl _ rfl w.heap.size rfl 245 _ (0,0) _ Q3.out.k underlying245 rfl (by kernel_rfl) ?_);go_ret;exact⟨rfl,Q3.out.b⟩
theorem vU (w:World) (x:FV) (F:Fld) (c:Cll) (hl:F.lms.length≤4000) (hs:F.sts.length≤4000) :
 Calls prog 289 #[.agg (bT x F c)] w fun e w'=>e=.returned (.bool (gB F c))∧Below w.heap.size w w':=by
 obtain⟨w0,hw0⟩:∃W,W=w.alloc (.cells (bT x F c) 245):=⟨_,rfl⟩;have J0:=aa (show CJ w x F c w0 by rw[hw0];exact CJ.start _ _ _ _);obtain⟨R,hR⟩:=ag (gB F c);rw[hR];obtain⟨kind,limit,other,fr,tt,sz,er,c1,c2,c3,c4,c5,c6⟩:=c;obtain⟨w1,hw1⟩:∃W,W=w0.alloc (.cells #[.int .u8 kind,.int .i64 limit,.int .i64 0,.int .i64 fr,.int .i64 tt,.int .i64 0,.int .i64 0,.int .i64 c1,.int .i64 c2,.int .i64 c3,.int .i64 c4,.int .i64 c5,.int .i64 c6] 48):=⟨_,rfl⟩;have J1:=aa (show CJ w x F ⟨kind,limit,other,fr,tt,sz,er,⟨c1,c2,c3,c4,c5,c6⟩⟩ w1 by rw[hw1];exact J0.out.next (aD));have hx1:=(show Kb [(w0.heap.size,.cells #[.int .u8 kind,.int .i64 limit,.int .i64 0,.int .i64 fr,.int .i64 tt,.int .i64 0,.int .i64 0,.int .i64 c1,.int .i64 c2,.int .i64 c3,.int .i64 c4,.int .i64 c5,.int .i64 c6] 48)] w1 by rw[hw1];exact Kb.alloc trivial);have kk:=ak J0.out.k;have k1:=ak J1.out.k;have k2:=ak hx1.1;unfold bT at kk k1
 dsimp only at *
 clear hx1
 have XE:=fun(W:World)=>tG (⟨kind,limit,other,fr,tt,sz,er,⟨c1,c2,c3,c4,c5,c6⟩⟩:Cll) (⟨kind,limit,0,fr,tt,0,0,⟨c1,c2,c3,c4,c5,c6⟩⟩:Cll) W
 have XG:=fun(op:BinOp) (x y:Operand) (xs ys:Array Value) (W:World)=>kv op x y xs ys W
 have hM:R=(decide ((⟨kind,limit,other,fr,tt,sz,er,⟨c1,c2,c3,c4,c5,c6⟩⟩:Cll)=⟨kind,limit,0,fr,tt,0,0,⟨c1,c2,c3,c4,c5,c6⟩⟩)&&[limit].all (bZ F)&&[fr,tt].all (aY F)&&decide (fr≠tt)&&Crs.ok ⟨c1,c2,c3,c4,c5,c6⟩):=by
  rw[←hR];unfold gB;simp[Bool.and_assoc]
 have H0:=aa (fun W=>fu (W.alloc (.cells #[.int .i64 limit] 3)) x F ⟨kind,limit,other,fr,tt,sz,er,⟨c1,c2,c3,c4,c5,c6⟩⟩ (some ⟨W.heap.size,0,none⟩) 1 [limit] (by simp) hl (e8 W limit));have H1:=aa (fun W=>dS (W.alloc (.cells #[.int .i64 fr,.int .i64 tt] 3)) x F ⟨kind,limit,other,fr,tt,sz,er,⟨c1,c2,c3,c4,c5,c6⟩⟩ (some ⟨W.heap.size,0,none⟩) 2 [fr,tt] (by simp) hs (gQ W fr tt));have H3:=aa (fun W=>fz ⟨c1,c2,c3,c4,c5,c6⟩ W);obtain⟨p0,hp0⟩:=ag ([limit].all (bZ F));rw[hp0] at hM H0;clear hp0;obtain⟨p1,hp1⟩:=ag ([fr,tt].all (aY F));rw[hp1] at hM H1;clear hp1;obtain⟨p3,hp3⟩:=ag (Crs.ok ⟨c1,c2,c3,c4,c5,c6⟩);rw[hp3] at hM H3;clear hp3;obtain⟨q,hq⟩:=ag (decide ((⟨kind,limit,other,fr,tt,sz,er,⟨c1,c2,c3,c4,c5,c6⟩⟩:Cll)=⟨kind,limit,0,fr,tt,0,0,⟨c1,c2,c3,c4,c5,c6⟩⟩));rw[hq] at hM XE;clear hq;unfold Cll.vals at XE;dsimp only at XE;have HM:=aa hM;clear hM hR
 try unfold Crs.val Crs.vals at *
 try dsimp only at *
 go_enter func289,ntmps289;go_upto_region 1 with fail;rw[←hw0];clear hw0;go_upto_region 2 with fail;rw[←hw1];clear hw1 kk J0;obtain⟨u0,rfl⟩:∃z:World,z=w1:=⟨w1,rfl⟩;have Q0:=J1;clear J1
 cases q with
 | false =>
   obtain rfl:R=false:=by rw[HM.out];simp
   go_wp2_with fail;go_ret;exact⟨rfl,Q0.out.b⟩
 | true =>
   go_wp2_with (refine ah rfl 245 _ rfl _ rfl w.heap.size rfl 245 _ (0,0) _ Q0.out.k underlying245 rfl (by kernel_rfl) ?_);refine(H0.out _).mono ?_;rintro e u1 ⟨rfl,hb1⟩;have Q1:=aa (Q0.out.next ((aD).trans (hb1.mono (by simp))));clear hb1 Q0 k1 k2;have k1:=ak Q1.out.k;unfold bT at k1;dsimp only at k1
   cases p0 with
   | false =>
     obtain rfl:R=false:=by rw[HM.out];simp
     go_wp2_with fail;go_ret;exact⟨rfl,Q1.out.b⟩
   | true =>
     go_wp2_with (refine ah rfl 245 _ rfl _ rfl w.heap.size rfl 245 _ (0,0) _ Q1.out.k underlying245 rfl (by kernel_rfl) ?_);refine(H1.out _).mono ?_;rintro e u2 ⟨rfl,hb2⟩;have Q2:=aa (Q1.out.next ((aD).trans (hb2.mono (by simp))));clear hb2 Q1 k1;have k1:=ak Q2.out.k;unfold bT at k1;dsimp only at k1
     cases p1 with
     | false =>
       obtain rfl:R=false:=by rw[HM.out];simp
       go_wp2_with fail;go_ret;exact⟨rfl,Q2.out.b⟩
     | true =>
       by_cases q2:fr≠tt
       rotate_left
       ·obtain rfl:R=false:=by rw[HM.out,decide_eq_false q2];simp
        have qb2:(fr != tt)=false:=by simpa using q2
        go_wp2_with fail;go_ret
        first|exact⟨rfl,Q2.out.b⟩|(refine⟨?_,Q2.out.b⟩;simp;omega)
       rw[decide_eq_true q2] at HM
       have qb2:(fr != tt)=true:=by simpa using q2
       have QN2:=aa q2;clear q2;go_wp2_with (refine ah rfl 245 _ rfl _ rfl w.heap.size rfl 245 _ (0,0) _ Q2.out.k underlying245 rfl (by kernel_rfl) ?_);refine(H3.out _).mono ?_;rintro e u3 ⟨rfl,hb3⟩;have Q3:=aa (Q2.out.next hb3);clear hb3 Q2 k1;have k1:=ak Q3.out.k;unfold bT at k1;dsimp only at k1
       cases p3 with
       | false =>
         obtain rfl:R=false:=by rw[HM.out];simp
         go_wp2_with fail;go_ret;exact⟨rfl,Q3.out.b⟩
       | true =>
         obtain rfl:R=true:=by rw[HM.out];simp
         go_wp2_with fail;go_ret;exact⟨rfl,Q3.out.b⟩
theorem xN (w:World) (x:FV) (F:Fld) (c:Cll) (hl:F.lms.length≤4000) (hs:F.sts.length≤4000) :
 Calls prog 291 #[.agg (bT x F c)] w fun e w'=>e=.returned (.bool (jJ F c))∧Below w.heap.size w w':=by
 obtain⟨w0,hw0⟩:∃W,W=w.alloc (.cells (bT x F c) 245):=⟨_,rfl⟩;have J0:=aa (show CJ w x F c w0 by rw[hw0];exact CJ.start _ _ _ _);obtain⟨R,hR⟩:=ag (jJ F c);rw[hR];obtain⟨kind,limit,other,fr,tt,sz,er,c1,c2,c3,c4,c5,c6⟩:=c;obtain⟨w1,hw1⟩:∃W,W=w0.alloc (.cells #[.int .u8 kind,.int .i64 limit,.int .i64 other,.int .i64 fr,.int .i64 tt,.int .i64 0,.int .i64 0,.int .i64 0,.int .i64 0,.int .i64 0,.int .i64 0,.int .i64 0,.int .i64 0] 48):=⟨_,rfl⟩;have J1:=aa (show CJ w x F ⟨kind,limit,other,fr,tt,sz,er,⟨c1,c2,c3,c4,c5,c6⟩⟩ w1 by rw[hw1];exact J0.out.next (aD));have hx1:=(show Kb [(w0.heap.size,.cells #[.int .u8 kind,.int .i64 limit,.int .i64 other,.int .i64 fr,.int .i64 tt,.int .i64 0,.int .i64 0,.int .i64 0,.int .i64 0,.int .i64 0,.int .i64 0,.int .i64 0,.int .i64 0] 48)] w1 by rw[hw1];exact Kb.alloc trivial);have kk:=ak J0.out.k;have k1:=ak J1.out.k;have k2:=ak hx1.1;unfold bT at kk k1
 dsimp only at *
 clear hx1
 have XE:=fun(W:World)=>tG (⟨kind,limit,other,fr,tt,sz,er,⟨c1,c2,c3,c4,c5,c6⟩⟩:Cll) (⟨kind,limit,other,fr,tt,0,0,⟨0,0,0,0,0,0⟩⟩:Cll) W
 have XG:=fun(op:BinOp) (x y:Operand) (xs ys:Array Value) (W:World)=>kv op x y xs ys W
 have hM:R=(decide ((⟨kind,limit,other,fr,tt,sz,er,⟨c1,c2,c3,c4,c5,c6⟩⟩:Cll)=⟨kind,limit,other,fr,tt,0,0,⟨0,0,0,0,0,0⟩⟩)&&[limit,other].all (bZ F)&&decide (limit<other)&&[fr,tt].all (aY F)&&decide (fr<tt)):=by
  rw[←hR];unfold jJ;simp[crs0,Bool.and_assoc]
 have H0:=aa (fun W=>fu (W.alloc (.cells #[.int .i64 limit,.int .i64 other] 3)) x F ⟨kind,limit,other,fr,tt,sz,er,⟨c1,c2,c3,c4,c5,c6⟩⟩ (some ⟨W.heap.size,0,none⟩) 2 [limit,other] (by simp) hl (gQ W limit other));have H2:=aa (fun W=>dS (W.alloc (.cells #[.int .i64 fr,.int .i64 tt] 3)) x F ⟨kind,limit,other,fr,tt,sz,er,⟨c1,c2,c3,c4,c5,c6⟩⟩ (some ⟨W.heap.size,0,none⟩) 2 [fr,tt] (by simp) hs (gQ W fr tt));obtain⟨p0,hp0⟩:=ag ([limit,other].all (bZ F));rw[hp0] at hM H0;clear hp0;obtain⟨p2,hp2⟩:=ag ([fr,tt].all (aY F));rw[hp2] at hM H2;clear hp2;obtain⟨q,hq⟩:=ag (decide ((⟨kind,limit,other,fr,tt,sz,er,⟨c1,c2,c3,c4,c5,c6⟩⟩:Cll)=⟨kind,limit,other,fr,tt,0,0,⟨0,0,0,0,0,0⟩⟩));rw[hq] at hM XE;clear hq;unfold Cll.vals at XE;dsimp only at XE;have HM:=aa hM;clear hM hR
 try unfold Crs.val Crs.vals at *
 try dsimp only at *
 go_enter func291,ntmps291;go_upto_region 1 with fail;rw[←hw0];clear hw0;go_upto_region 2 with fail;rw[←hw1];clear hw1 kk J0;obtain⟨u0,rfl⟩:∃z:World,z=w1:=⟨w1,rfl⟩;have Q0:=J1;clear J1
 cases q with
 | false =>
   obtain rfl:R=false:=by rw[HM.out];simp
   go_wp2_with fail;go_ret;exact⟨rfl,Q0.out.b⟩
 | true =>
   go_wp2_with (refine ah rfl 245 _ rfl _ rfl w.heap.size rfl 245 _ (0,0) _ Q0.out.k underlying245 rfl (by kernel_rfl) ?_);refine(H0.out _).mono ?_;rintro e u1 ⟨rfl,hb1⟩;have Q1:=aa (Q0.out.next ((aD).trans (hb1.mono (by simp))));clear hb1 Q0 k1 k2;have k1:=ak Q1.out.k;unfold bT at k1;dsimp only at k1
   cases p0 with
   | false =>
     obtain rfl:R=false:=by rw[HM.out];simp
     go_wp2_with fail;go_ret;exact⟨rfl,Q1.out.b⟩
   | true =>
     by_cases q1:limit<other
     rotate_left
     ·obtain rfl:R=false:=by rw[HM.out,decide_eq_false q1];simp
      go_wp2_with fail;go_ret
      first|exact⟨rfl,Q1.out.b⟩|(refine⟨?_,Q1.out.b⟩;simp;omega)
     rw[decide_eq_true q1] at HM;go_wp2_with (refine ah rfl 245 _ rfl _ rfl w.heap.size rfl 245 _ (0,0) _ Q1.out.k underlying245 rfl (by kernel_rfl) ?_);refine(H2.out _).mono ?_;rintro e u2 ⟨rfl,hb2⟩;have Q2:=aa (Q1.out.next ((aD).trans (hb2.mono (by simp))));clear hb2 Q1 k1;have k1:=ak Q2.out.k;unfold bT at k1;dsimp only at k1
     cases p2 with
     | false =>
       obtain rfl:R=false:=by rw[HM.out];simp
       go_wp2_with fail;go_ret;exact⟨rfl,Q2.out.b⟩
     | true =>
       by_cases q3:fr<tt
       rotate_left
       ·obtain rfl:R=false:=by rw[HM.out,decide_eq_false q3];simp
        go_wp2_with fail;go_ret
        first|exact⟨rfl,Q2.out.b⟩|(refine⟨?_,Q2.out.b⟩;simp;omega)
       rw[decide_eq_true q3] at HM
       obtain rfl:R=true:=by rw[HM.out];simp
       go_wp2_with (refine ah rfl 245 _ rfl _ rfl w.heap.size rfl 245 _ (0,0) _ Q2.out.k underlying245 rfl (by kernel_rfl) ?_);go_ret
       first|exact⟨rfl,Q2.out.b⟩|(refine⟨?_,Q2.out.b⟩;simp;omega)
theorem xl (w:World) (x:FV) (F:Fld) (c:Cll) (hl:F.lms.length≤4000) (hs:F.sts.length≤4000) :
 Calls prog 293 #[.agg (bT x F c)] w fun e w'=>e=.returned (.bool (kd F c))∧Below w.heap.size w w':=by
 obtain⟨w0,hw0⟩:∃W,W=w.alloc (.cells (bT x F c) 245):=⟨_,rfl⟩;have J0:=aa (show CJ w x F c w0 by rw[hw0];exact CJ.start _ _ _ _);obtain⟨R,hR⟩:=ag (kd F c);rw[hR];obtain⟨kind,limit,other,fr,tt,sz,er,c1,c2,c3,c4,c5,c6⟩:=c;obtain⟨w1,hw1⟩:∃W,W=w0.alloc (.cells #[.int .u8 kind,.int .i64 limit,.int .i64 0,.int .i64 fr,.int .i64 tt,.int .i64 sz,.int .i64 er,.int .i64 0,.int .i64 0,.int .i64 0,.int .i64 0,.int .i64 0,.int .i64 0] 48):=⟨_,rfl⟩;have J1:=aa (show CJ w x F ⟨kind,limit,other,fr,tt,sz,er,⟨c1,c2,c3,c4,c5,c6⟩⟩ w1 by rw[hw1];exact J0.out.next (aD));have hx1:=(show Kb [(w0.heap.size,.cells #[.int .u8 kind,.int .i64 limit,.int .i64 0,.int .i64 fr,.int .i64 tt,.int .i64 sz,.int .i64 er,.int .i64 0,.int .i64 0,.int .i64 0,.int .i64 0,.int .i64 0,.int .i64 0] 48)] w1 by rw[hw1];exact Kb.alloc trivial);have kk:=ak J0.out.k;have k1:=ak J1.out.k;have k2:=ak hx1.1;unfold bT at kk k1
 dsimp only at *
 clear hx1
 have XE:=fun(W:World)=>tG (⟨kind,limit,other,fr,tt,sz,er,⟨c1,c2,c3,c4,c5,c6⟩⟩:Cll) (⟨kind,limit,0,fr,tt,sz,er,⟨0,0,0,0,0,0⟩⟩:Cll) W
 have XG:=fun(op:BinOp) (x y:Operand) (xs ys:Array Value) (W:World)=>kv op x y xs ys W
 have hM:R=(decide ((⟨kind,limit,other,fr,tt,sz,er,⟨c1,c2,c3,c4,c5,c6⟩⟩:Cll)=⟨kind,limit,0,fr,tt,sz,er,⟨0,0,0,0,0,0⟩⟩)&&[limit].all (bZ F)&&[fr,tt].all (aY F)&&decide (fr≠tt)&&dQ ⟨kind,limit,other,fr,tt,sz,er,⟨c1,c2,c3,c4,c5,c6⟩⟩ (-100000)):=by
  rw[←hR];unfold kd;simp[crs0,Bool.and_assoc]
 have H0:=aa (fun W=>fu (W.alloc (.cells #[.int .i64 limit] 3)) x F ⟨kind,limit,other,fr,tt,sz,er,⟨c1,c2,c3,c4,c5,c6⟩⟩ (some ⟨W.heap.size,0,none⟩) 1 [limit] (by simp) hl (e8 W limit));have H1:=aa (fun W=>dS (W.alloc (.cells #[.int .i64 fr,.int .i64 tt] 3)) x F ⟨kind,limit,other,fr,tt,sz,er,⟨c1,c2,c3,c4,c5,c6⟩⟩ (some ⟨W.heap.size,0,none⟩) 2 [fr,tt] (by simp) hs (gQ W fr tt));have H3:=aa (fun W=>lY W x F ⟨kind,limit,other,fr,tt,sz,er,⟨c1,c2,c3,c4,c5,c6⟩⟩ (-100000));obtain⟨p0,hp0⟩:=ag ([limit].all (bZ F));rw[hp0] at hM H0;clear hp0;obtain⟨p1,hp1⟩:=ag ([fr,tt].all (aY F));rw[hp1] at hM H1;clear hp1;obtain⟨p3,hp3⟩:=ag (dQ ⟨kind,limit,other,fr,tt,sz,er,⟨c1,c2,c3,c4,c5,c6⟩⟩ (-100000));rw[hp3] at hM H3;clear hp3;obtain⟨q,hq⟩:=ag (decide ((⟨kind,limit,other,fr,tt,sz,er,⟨c1,c2,c3,c4,c5,c6⟩⟩:Cll)=⟨kind,limit,0,fr,tt,sz,er,⟨0,0,0,0,0,0⟩⟩));rw[hq] at hM XE;clear hq;unfold Cll.vals at XE;dsimp only at XE;have HM:=aa hM;clear hM hR
 try unfold Crs.val Crs.vals at *
 try dsimp only at *
 go_enter func293,ntmps293;go_upto_region 1 with fail;rw[←hw0];clear hw0;go_upto_region 2 with fail;rw[←hw1];clear hw1 kk J0;obtain⟨u0,rfl⟩:∃z:World,z=w1:=⟨w1,rfl⟩;have Q0:=J1;clear J1
 cases q with
 | false =>
   obtain rfl:R=false:=by rw[HM.out];simp
   go_wp2_with fail;go_ret;exact⟨rfl,Q0.out.b⟩
 | true =>
   go_wp2_with (refine ah rfl 245 _ rfl _ rfl w.heap.size rfl 245 _ (0,0) _ Q0.out.k underlying245 rfl (by kernel_rfl) ?_);refine(H0.out _).mono ?_;rintro e u1 ⟨rfl,hb1⟩;have Q1:=aa (Q0.out.next ((aD).trans (hb1.mono (by simp))));clear hb1 Q0 k1 k2;have k1:=ak Q1.out.k;unfold bT at k1;dsimp only at k1
   cases p0 with
   | false =>
     obtain rfl:R=false:=by rw[HM.out];simp
     go_wp2_with fail;go_ret;exact⟨rfl,Q1.out.b⟩
   | true =>
     go_wp2_with (refine ah rfl 245 _ rfl _ rfl w.heap.size rfl 245 _ (0,0) _ Q1.out.k underlying245 rfl (by kernel_rfl) ?_);refine(H1.out _).mono ?_;rintro e u2 ⟨rfl,hb2⟩;have Q2:=aa (Q1.out.next ((aD).trans (hb2.mono (by simp))));clear hb2 Q1 k1;have k1:=ak Q2.out.k;unfold bT at k1;dsimp only at k1
     cases p1 with
     | false =>
       obtain rfl:R=false:=by rw[HM.out];simp
       go_wp2_with fail;go_ret;exact⟨rfl,Q2.out.b⟩
     | true =>
       by_cases q2:fr≠tt
       rotate_left
       ·obtain rfl:R=false:=by rw[HM.out,decide_eq_false q2];simp
        have qb2:(fr != tt)=false:=by simpa using q2
        go_wp2_with fail;go_ret
        first|exact⟨rfl,Q2.out.b⟩|(refine⟨?_,Q2.out.b⟩;simp;omega)
       rw[decide_eq_true q2] at HM
       have qb2:(fr != tt)=true:=by simpa using q2
       have QN2:=aa q2;clear q2;go_wp2_with (refine ah rfl 245 _ rfl _ rfl w.heap.size rfl 245 _ (0,0) _ Q2.out.k underlying245 rfl (by kernel_rfl) ?_);refine(H3.out _).mono ?_;rintro e u3 ⟨rfl,hb3⟩;have Q3:=aa (Q2.out.next hb3);clear hb3 Q2 k1;have k1:=ak Q3.out.k;unfold bT at k1;dsimp only at k1
       cases p3 with
       | false =>
         obtain rfl:R=false:=by rw[HM.out];simp
         go_wp2_with fail;go_ret;exact⟨rfl,Q3.out.b⟩
       | true =>
         obtain rfl:R=true:=by rw[HM.out];simp
         go_wp2_with (refine ah rfl 245 _ rfl _ rfl w.heap.size rfl 245 _ (0,0) _ Q3.out.k underlying245 rfl (by kernel_rfl) ?_);go_ret;exact⟨rfl,Q3.out.b⟩
theorem tO {P:Program} {ops:Array Oper} {Q:Exit→Act→World→Prop} {md:Region.Mode} {S:World→Prop} {last:Nat} {oi:Oper} {fuel:Nat} {listed:Array Bool} {a:Act} {w:World} (i d:Nat) (hi:ops[i]?=some oi) (hB:(decide (ops.size≤last)&&Ak md ops listed i d)=true)
 (hw:Region.wanted oi (yielded ops a.tmps)=false) (hQ:∀c a w,Q (.panic c) (a.put oi.dst undef) w→Q (.panic c) a w) (hS:S w)
 (h:bv P md ops Q S last fuel (listed.setIfInBounds i true) { a with tmps:=a.tmps.setIfInBounds d undef } w):bv P md ops Q S last (fuel+1) listed a w:=by
 simp only[Bool.and_eq_true,decide_eq_true_eq] at hB;obtain⟨h1,h2,h3,h4⟩:=ou hi hB.2;exact io hB.1 hi h1 h2 h3 h4 hQ (.inr ⟨hw,rfl⟩) hS h
theorem AU {F:Fld} (h:F.check=0) {k:Nat} (hk:k<F.sts.length):0≤(F.sts.getD k js).x∧(F.sts.getD k js).x≤100000:=by
 have h1:=(bb h).2.2.2.2.2.2.2
 have hm:F.sts.getD k js∈F.sts:=by rw[List.getD_eq_getElem?_getD,List.getElem?_eq_getElem hk];exact List.getElem_mem hk
 have:bm (F.sts.getD k js).x 0 100000=true:=by
  cases q:bm (F.sts.getD k js).x 0 100000
  ·have:(F.sts.any fun s=>!bm s.x 0 100000)=true:=List.any_eq_true.2 ⟨_,hm,by rw[q];rfl⟩
   rw[this] at h1;cases h1
  ·rfl
 exact dZ.1 this
theorem z7 {F:Fld} (h:F.check=0) {c:Cll} (h1:aY F c.fr=true) (h2:aY F c.tt=true):-100000≤oX F c∧oX F c≤100000:=by
 rw[fw] at h1 h2;have a:=AU h (k:=c.tt.toNat) (by omega);have b:=AU h (k:=c.fr.toNat) (by omega);unfold oX;omega
theorem zH {w:World} {x:FV} {F:Fld} (h:FldAt w x F) {k:Int} (hk:aY F k=true):∃(n b off:Nat),k=n∧n<F.sts.length∧x.aS=some ⟨b,off,none⟩∧b<w.heap.size∧w.cell? ⟨b,off+n*2+1,none⟩=some (.int .i64 (F.sts.getD k.toNat js).x):=by
 rw[fw] at hk;obtain⟨n,rfl⟩:∃n:Nat,k=n:=⟨k.toNat,by omega⟩
 have hn:n<F.sts.length:=by omega
 obtain⟨b,off,e,hb,hc⟩:=RecsAt.at h.st hn;refine⟨n,b,off,rfl,hn,e,hb,?_⟩;rw[hc 1 (by omega)];simp[Sta.cells,List.getD_eq_getElem?_getD,hn]
theorem wo (w:World) (x:FV) (F:Fld) (c:Cll) (hF:F.check=0) (h:FldAt w x F) (h1:aY F c.fr=true) (h2:aY F c.tt=true) :
 Calls prog 272 #[.agg (bT x F c)] w fun e w'=>e=.returned (.int .i64 (oX F c))∧Below w.heap.size w w':=by
 have hb:=z7 hF h1 h2;have hl:=(bb hF).1;obtain⟨w0,hw0⟩:∃W,W=w.alloc (.cells (bT x F c) 245):=⟨_,rfl⟩;have J0:=aa (show CJ w x F c w0 by rw[hw0];exact CJ.start _ _ _ _);have kk:=ak J0.out.k
 have h0:FldAt w0 x F:=by rw[hw0];exact h.alloc _
 obtain⟨n,b,off,e1,hn,e2,hbb,c1⟩:=zH h0 h1;obtain⟨m,b',off',e1',hm,e2',_,c2⟩:=zH h0 h2;rw[e2] at e2';cases e2';unfold oX at hb ⊢;obtain⟨X,hX⟩:=ag ((F.sts.getD c.fr.toNat js).x);obtain⟨Y,hY⟩:=ag ((F.sts.getD c.tt.toNat js).x);rw[hX] at hb c1 ⊢;rw[hY] at hb c2 ⊢
 unfold bT at *
 rw[e1,e1',e2] at kk;have kw:IntKind.i64.wrap (Y-X)=Y-X:=IntWalk.i64_in _ (by omega)
 have d1:decide ((n:Int)<(F.sts.length:Int))=true:=by simp;omega
 have d2:decide ((m:Int)<(F.sts.length:Int))=true:=by simp;omega
 clear h h0 hX hY h1 h2 e1 e1' e2 hF;go_enter func272,ntmps272;go_upto_region 1 with fail;rw[←hw0];clear hw0
 go_quiet (fail)
 go_wp2_with fail;go_ret;exact⟨rfl,J0.out.b.trans (aA _ _)⟩
def pH:Array Value:=#[.string ByteArray.empty,.nilFunc,.nilFunc,.string ⟨#[115,116,111,110,101]⟩,.func (.func 285) #[] #[],.func (.func 286) #[] #[],.string ⟨#[119,105,100,116,104]⟩,.func (.func 287) #[] #[],.func (.func 288) #[] #[],.string ⟨#[99,111,117,114,115,101]⟩,.func (.func 289) #[] #[],.func (.func 290) #[] #[],.string ⟨#[97,108,111,110,103]⟩,.func (.func 291) #[] #[],.func (.func 292) #[] #[],.string ⟨#[108,101,118,101,108]⟩,.func (.func 293) #[] #[],.func (.func 294) #[] #[]]
theorem lX (w:World):Calls prog 269 #[] w fun e w'=>e=.returned (.agg pH)∧Below w.heap.size w w':=by
 go_enter func269,ntmps269;go_upto_region 1 with fail;refine wp_region_list ?_;refine bJ rfl _ _ rfl #[.string ⟨#[115,116,111,110,101]⟩,.func (.func 285) #[] #[],.func (.func 286) #[] #[]] (by kernel_rfl) ?_;refine bJ rfl _ _ rfl #[.string ⟨#[119,105,100,116,104]⟩,.func (.func 287) #[] #[],.func (.func 288) #[] #[]] (by kernel_rfl) ?_;refine bJ rfl _ _ rfl #[.string ⟨#[99,111,117,114,115,101]⟩,.func (.func 289) #[] #[],.func (.func 290) #[] #[]] (by kernel_rfl) ?_;refine bJ rfl _ _ rfl #[.string ⟨#[97,108,111,110,103]⟩,.func (.func 291) #[] #[],.func (.func 292) #[] #[]] (by kernel_rfl) ?_;refine bJ rfl _ _ rfl #[.string ⟨#[108,101,118,101,108]⟩,.func (.func 293) #[] #[],.func (.func 294) #[] #[]] (by kernel_rfl) ?_;refine bJ rfl _ _ rfl pH (by kernel_rfl) ?_;refine wpList_store_row rfl 286 _ _ rfl w.heap.size pH rfl rfl 286 _ (heap_alloc_new _ _) (by kernel_rfl) (by kernel_rfl) (by kernel_rfl) ?_;go_wp2_with fail;refine bodyPost_ret (v:=.agg pH) (cv results269 _ _ w.heap.size 286 pH (0,0) _ rfl (setRow_heap _ _ _ _ _ _ (heap_alloc_new _ _)) underlying286 rfl (by kernel_rfl)) rfl ⟨rfl,below_setRow (aD) (Nat.le_refl _) _⟩
theorem gp {P:Program} {o:Oper} {a:Act} {V:World} {ty:TypeId} {x:Operand} {g:Nat} {t:TypeId} {cs:Array Value} {fr:Nat×Nat} {d:TypeDesc} (ho:o.op=.load ty x) (hx:a.eval x=.pointer (some ⟨g,0,none⟩)) (hg:V.heap[g]?=some (.cells cs t fr))
 (hu:P.underlying ty=some d) (hd:(match d with|.struct _|.array _ _=>true|_=>false)=true) (hi:(P.info? ty).map (·.size)=some cs.size):(execOp a.eval o).run P V=.ok (.value (.agg cs)) V:=by
 unfold execOp;simp only[ho,hx,Instr.loadAt,Instr.sureAddr,Sem.run_bind,Sem.run_pure,Result.andThen_ok,run_loadVar_row V g t ty cs fr d hg hu hd hi]
theorem Ci {k:Int} (h:1≤k∧k≤5):bm k 1 5=true:=dZ.2 h
theorem BP {k:Int} (h:¬(1≤k∧k≤5)):bm k 1 5=false:=by
 cases q:bm k 1 5
 ·rfl
 ·exact absurd (dZ.1 q) h
theorem qE (w:World) (x:FV) (F:Fld) (c:Cll) (hk:0≤c.kind∧c.kind≤255) (hko:¬(1≤c.kind∧c.kind≤5)) :
 Calls prog 225 #[.agg (bT x F c)] w fun e w'=>e=.returned (.int .i64 1)∧Below w.heap.size w w':=by
 obtain⟨w0,hw0⟩:∃W,W=w.alloc (.cells (bT x F c) 245):=⟨_,rfl⟩;have J0:=aa (show CJ w x F c w0 by rw[hw0];exact CJ.start _ _ _ _);have HIN:=aa (fun W=>gF c.kind 1 5 W);rw[BP hko] at HIN;have w5:IntKind.i64.wrap 5=5:=IntWalk.i64_in _ (by omega);have wk:IntKind.i64.wrap c.kind=c.kind:=IntWalk.i64_in _ (by omega);go_enter func225,ntmps225;go_upto_region 1 with fail;rw[←hw0];clear hw0;have hS1:Kb [(w.heap.size,cK x F c)] w0.drew:=⟨(J0.out.next (Below.refl _ w0).drew).k,trivial⟩;have B1:=aa (J0.out.next (Below.refl _ w0).drew).b;refine aJ (S:=Kb [(w.heap.size,cK x F c)]) (last:=100) (by kernel_rfl) ?_;refine aR 0 9 (.pointer (some ⟨w.heap.size,4,none⟩)) hS1 ?_;(try simp only[s3]);refine aR 1 10 (.pointer (some ⟨w.heap.size,4,none⟩)) hS1 ?_;(try simp only[s3]);refine tf 2 11 (.int .u8 c.kind) hS1 (fun V hV=>?_) ?_
 ·(have z:=ak hV.1;unfold bT at z;simp[go_sem,execOp,z])
 (try simp only[s3]);refine tf 3 12 (.int .i64 c.kind) hS1 (fun V hV=>?_) ?_
 ·simp[go_sem,execOp,wk]
 (try simp only[s3]);refine ae 4 rfl (by kernel_rfl) (fun K hK=>?_);go_simp;go_at_call 269;refine(lX _).mono ?_;rintro e u2 ⟨rfl,hb2⟩;have hS2:=hS1.next hb2;have B2:=bU B1 hb2;clear hb2;go_wp2_with fail;refine hK.out _ _ (.inr hS2) ?_;clear hK K;(try simp only[Act.put,s3]);refine aR 5 14 (.int .i64 6) hS2 ?_;(try simp only[s3]);refine tf 6 15 (.int .i64 5) hS2 (fun V hV=>?_) ?_
 ·simp[go_sem,execOp,w5]
 (try simp only[s3]);refine ae 7 rfl (by kernel_rfl) (fun K hK=>?_);go_simp;go_at_call 137;refine(HIN.out _).mono ?_;rintro e wq ⟨rfl,rfl⟩;go_wp2_with fail;refine hK.out _ _ (.inr hS2) ?_;clear hK K;(try simp only[Act.put,s3]);refine aR 8 17 (.bool true) hS2 ?_;(try simp only[s3]);refine aR 9 18 (.bool true) hS2 ?_;(try simp only[s3]);refine tO 11 20 rfl (by kernel_rfl) rfl (fun _ _ _ h=>h) hS2 ?_;(try simp only[s3]);refine tO 12 21 rfl (by kernel_rfl) rfl (fun _ _ _ h=>h) hS2 ?_;(try simp only[s3]);refine tO 13 22 rfl (by kernel_rfl) rfl (fun _ _ _ h=>h) hS2 ?_;(try simp only[s3]);refine tO 16 25 rfl (by kernel_rfl) rfl (fun _ _ _ h=>h) hS2 ?_;(try simp only[s3]);refine tO 10 19 rfl (by kernel_rfl) rfl (fun _ _ _ h=>h) hS2 ?_;(try simp only[s3]);refine tO 14 23 rfl (by kernel_rfl) rfl (fun _ _ _ h=>h) hS2 ?_;(try simp only[s3]);refine tO 15 24 rfl (by kernel_rfl) rfl (fun _ _ _ h=>h) hS2 ?_;(try simp only[s3]);refine tO 17 26 rfl (by kernel_rfl) rfl (fun _ _ _ h=>h) hS2 ?_;(try simp only[s3]);refine tO 18 27 rfl (by kernel_rfl) rfl (fun _ _ _ h=>h) hS2 ?_;(try simp only[s3]);refine aR 19 28 (.bool true) hS2 ?_;(try simp only[s3]);refine aw (by kernel_rfl) ?_ _;go_wp2_with fail;go_ret;exact⟨rfl,B2.out⟩
theorem zD {F:Fld} {c:Cll} (h:cA F c=true) (h3:c.kind=3):aY F c.fr=true∧aY F c.tt=true∧c.crs.ok=true:=by
 unfold cA at h;rw[if_neg (by omega),if_neg (by omega),if_pos h3] at h;unfold gB at h;simp only[Bool.and_eq_true] at h;exact⟨h.1.1.2.1,h.1.1.2.2,h.2⟩
theorem fx (w:World) (x:FV) (F:Fld) (c:Cll) (hF:F.check=0) (h:FldAt w x F) (hk:1≤c.kind∧c.kind≤5) (f:Nat) (s1 s2:Value)
 (hidx:∀W:World,(Instr.index 286 (.agg pH) (.int .u8 c.kind)).run prog W=.ok (.agg #[s1,.func (.func f) #[] #[],s2]) W) (eg:Enters prog f)
 (hcall0:∀W,Calls prog f #[.agg (bT x F c)] W fun e w'=>e=.returned (.bool (cA F c))∧Below W.heap.size W w') :
 Calls prog 225 #[.agg (bT x F c)] w fun e w'=>e=.returned (.int .i64 (dP F c))∧Below w.heap.size w w':=by
 obtain⟨R,hR⟩:=ag (dP F c);rw[hR];unfold dP at hR;have HST:=aa (zD (F:=F) (c:=c));obtain⟨q,hq⟩:=ag (cA F c);have hcall:=hcall0;rw[hq] at hR hcall HST;clear hq hcall0;obtain⟨w0,hw0⟩:∃W,W=w.alloc (.cells (bT x F c) 245):=⟨_,rfl⟩;have J0:=aa (show CJ w x F c w0 by rw[hw0];exact CJ.start _ _ _ _);have HIN:=aa (fun W=>gF c.kind 1 5 W);rw[Ci hk] at HIN;have w5:IntKind.i64.wrap 5=5:=IntWalk.i64_in _ (by omega);have wk:IntKind.i64.wrap c.kind=c.kind:=IntWalk.i64_in _ (by omega)
 have hfld:∀W:World,(Instr.field 285 (.agg #[s1,.func (.func f) #[] #[],s2]) 1).run prog W=.ok (.func (.func f) #[] #[]) W:=fun W=>by kernel_rfl
 have HRR:=aa hR;unfold Enters at eg;clear hR;go_enter func225,ntmps225;go_upto_region 1 with fail;rw[←hw0];clear hw0;have hS1:Kb [(w.heap.size,cK x F c)] w0.drew:=⟨(J0.out.next (Below.refl _ w0).drew).k,trivial⟩;have B1:=aa (J0.out.next (Below.refl _ w0).drew).b;refine aJ (S:=Kb [(w.heap.size,cK x F c)]) (last:=100) (by kernel_rfl) ?_;refine aR 0 9 (.pointer (some ⟨w.heap.size,4,none⟩)) hS1 ?_;(try simp only[s3]);refine aR 1 10 (.pointer (some ⟨w.heap.size,4,none⟩)) hS1 ?_;(try simp only[s3]);refine tf 2 11 (.int .u8 c.kind) hS1 (fun V hV=>?_) ?_
 ·(have z:=ak hV.1;unfold bT at z;simp[go_sem,execOp,z])
 (try simp only[s3]);refine tf 3 12 (.int .i64 c.kind) hS1 (fun V hV=>?_) ?_
 ·simp[go_sem,execOp,wk]
 (try simp only[s3]);refine ae 4 rfl (by kernel_rfl) (fun K hK=>?_);go_simp;go_at_call 269;refine(lX _).mono ?_;rintro e u2 ⟨rfl,hb2⟩;have hS2:=hS1.next hb2;have B2:=bU B1 hb2;clear hb2;go_wp2_with fail;refine hK.out _ _ (.inr hS2) ?_;clear hK K;(try simp only[Act.put,s3]);refine aR 5 14 (.int .i64 6) hS2 ?_;(try simp only[s3]);refine tf 6 15 (.int .i64 5) hS2 (fun V hV=>?_) ?_
 ·simp[go_sem,execOp,w5]
 (try simp only[s3]);refine ae 7 rfl (by kernel_rfl) (fun K hK=>?_);go_simp;go_at_call 137;refine(HIN.out _).mono ?_;rintro e wq ⟨rfl,rfl⟩;go_wp2_with fail;refine hK.out _ _ (.inr hS2) ?_;clear hK K;(try simp only[Act.put,s3]);refine aR 8 17 (.bool false) hS2 ?_;(try simp only[s3]);refine aR 9 18 (.bool false) hS2 ?_;(try simp only[s3]);refine aR 11 20 (.pointer (some ⟨w.heap.size,4,none⟩)) hS2 ?_;(try simp only[s3]);refine aR 12 21 (.pointer (some ⟨w.heap.size,4,none⟩)) hS2 ?_;(try simp only[s3]);refine tf 13 22 (.int .u8 c.kind) hS2 (fun V hV=>?_) ?_
 ·(have z:=ak hV.1;unfold bT at z;simp[go_sem,execOp,z])
 (try simp only[s3]);refine tf 16 25 (.agg (bT x F c)) hS2 (fun V hV=>?_) ?_
 ·exact gp rfl rfl hV.1 underlying245 rfl (by kernel_rfl)
 (try simp only[s3]);refine ae 10 rfl (by kernel_rfl) (fun K hK=>?_);go_simp;go_at_call 269;refine(lX _).mono ?_;rintro e u3 ⟨rfl,hb3⟩;have hS3:=hS2.next hb3;have B3:=bU B2 hb3;clear hb3;go_wp2_with fail;refine hK.out _ _ (.inr hS3) ?_;clear hK K;(try simp only[Act.put,s3]);refine tf 14 23 (.agg #[s1,.func (.func f) #[] #[],s2]) hS3 (fun V hV=>?_) ?_
 ·simp[go_sem,execOp,hidx]
 (try simp only[s3]);refine tf 15 24 (.func (.func f) #[] #[]) hS3 (fun V hV=>?_) ?_
 ·simp[go_sem,execOp,hfld]
 (try simp only[s3]);refine ae 17 rfl (by kernel_rfl) (fun K hK=>?_);go_simp;go_at_fn f;refine(hcall _).mono ?_;rintro e u4 ⟨rfl,hb4⟩;have hS4:=hS3.next hb4;have B4:=bU B3 hb4;clear hb4;go_wp2_with fail;refine hK.out _ _ (.inr hS4) ?_;clear hK K;(try simp only[Act.put,s3]);refine aR 18 27 (.bool (!q)) hS4 ?_;(try simp only[s3]);refine aR 19 28 (.bool (!q)) hS4 ?_;(try simp only[s3]);refine aw (by kernel_rfl) ?_ _
 cases q with
 | false =>
   have hR:=HRR.out;rw[if_pos rfl] at hR;subst hR;go_wp2_with fail;go_ret;exact⟨rfl,B4.out⟩
 | true =>
 have hR:=HRR.out;rw[if_neg (by simp)] at hR;clear HRR;have kk:=ak hS4.1;unfold bT at kk
 by_cases h3:c.kind=3
 rotate_left
 ·rw[if_pos h3] at hR
  subst hR
  have h3b:(c.kind != 3)=true:=by simpa using h3
  have h3c:decide (c.kind=3)=false:=by simpa using h3
  clear h3;go_wp2_with fail;go_ret;exact⟨rfl,B4.out⟩
 rw[if_neg (by omega)] at hR;obtain⟨hs1,hs2,hok⟩:=HST.out rfl h3;have HD:=aa (fun W (hW:VrnsAt W x.aV F.vrs)=>nO W x.aV x.cV F.vrs c.crs.year (by have:=h.lv;omega) hW);have HRUN:=aa (fun W (hW:FldAt W x F)=>wo W x F c hF hW hs1 hs2);have HITV:=aa (fun W (hW:VrnsAt W x.aV F.vrs)=>rV W x.aV x.cV F.vrs c.crs (oX F c) (by have:=h.lv;omega) hW);unfold gV at hR;obtain⟨D,hD⟩:=ag (eN F.vrs c.crs.year);obtain⟨run,hrun⟩:=ag (oX F c);rw[hrun] at hR HRUN HITV;obtain⟨⟨r1,er⟩,hr⟩:=ag (lD F.vrs c.crs run);rw[hr] at HITV hR;rw[hD] at HD hR;clear hD hrun hr hs1 hs2 hok HST hcall hidx
 have h3b:(c.kind != 3)=false:=by rw[h3];rfl
 have H3:=aa h3;clear h3;go_wp2_with fail;refine(HD.out _ (h.below B4.out).vr).mono ?_;rintro e u5 ⟨rfl,hb5⟩;have hS5:=hS4.next hb5;have B5:=bU B4 hb5;clear hb5 kk HD
 cases D with
 | none =>
   rw[if_pos rfl] at hR;subst hR;unfold vW;go_wp2_with fail;go_ret;exact⟨rfl,B5.out⟩
 | some dd =>
 rw[if_neg (by simp)] at hR;unfold vW;go_upto_region 8 with fail;have hS6:Kb [(w.heap.size,cK x F c)] u5.drew:=hS5.drew;have B6:=aa (B5.out.trans (Below.refl _ u5).drew)
 obtain⟨p1,p2,is,hV,hR2⟩:∃p1 p2 is,il (r1,er)=.tuple #[.int .i64 p1,.int .i64 p2,.bool is,.int .i64 er]∧R=if er≠0 then er else if is=false then 5 else 0:=by
  cases r1 with
  | none=>exact⟨0,0,false,rfl,by rw[←hR];simp⟩
  | some p=>exact⟨p.1,p.2,true,rfl,by rw[←hR];simp⟩
 rw[hV] at HITV;have HR2:=aa hR2;clear hR hR2 hV hS1 hS4 hS5 B1 B4 B5;refine aJ (S:=Kb [(w.heap.size,cK x F c)]) (last:=100) (by kernel_rfl) ?_;refine aR 0 47 (.pointer (some ⟨w.heap.size,0,none⟩)) hS6 ?_;(try simp only[s3]);refine aR 1 48 (.pointer (some ⟨w.heap.size,3,none⟩)) hS6 ?_;(try simp only[s3]);refine tf 2 49 (.slice x.aV F.vrs.length x.cV) hS6 (fun V hV=>?_) ?_
 ·(have z:=ak hV.1;unfold bT at z;simp[go_sem,execOp,z])
 (try simp only[s3]);refine aR 3 50 (.pointer (some ⟨w.heap.size,4,none⟩)) hS6 ?_;(try simp only[s3]);refine aR 4 51 (.pointer (some ⟨w.heap.size,11,none⟩)) hS6 ?_;(try simp only[s3]);refine tf 5 52 (.agg #[.int .i64 c.crs.bearing,.int .i64 c.crs.needle,.int .i64 c.crs.links,.int .i64 c.crs.year,.int .i64 c.crs.wear,.int .i64 c.crs.slack]) hS6 (fun V hV=>?_) ?_
 ·(have z:=ak hV.1;unfold bT at z;simp[go_sem,execOp,z])
 (try simp only[s3]);refine tf 6 53 (.agg (bT x F c)) hS6 (fun V hV=>?_) ?_
 ·exact gp rfl rfl hV.1 underlying245 rfl (by kernel_rfl)
 (try simp only[s3]);refine ae 7 rfl (by kernel_rfl) (fun K hK=>?_);go_simp;go_at_call 272;refine(HRUN.out _ (h.below B6.out)).mono ?_;rintro e u7 ⟨rfl,hb7⟩;have hS7:=hS6.next hb7;have B7:=bU B6 hb7;clear hb7;go_wp2_with fail;refine hK.out _ _ (.inr hS7) ?_;clear hK K;(try simp only[Act.put,s3]);refine ae 8 rfl (by kernel_rfl) (fun K hK=>?_);go_simp;go_at_call 271;refine(HITV.out _ (h.below B7.out).vr).mono ?_;rintro e u8 ⟨rfl,hb8⟩;have hS8:=hS7.next hb8;have B8:=bU B7 hb8;clear hb8;go_wp2_with fail;refine hK.out _ _ (.inr hS8) ?_;clear hK K;(try simp only[Act.put,s3]);refine aR 9 46 (.tuple #[.int .i64 p1,.int .i64 p2,.bool is,.int .i64 er]) hS8 ?_;(try simp only[s3]);refine aR 10 56 (.int .i64 p1) hS8 ?_;(try simp only[s3]);refine aR 11 57 (.int .i64 p2) hS8 ?_;(try simp only[s3]);refine aR 12 58 (.bool is) hS8 ?_;(try simp only[s3]);refine aR 13 59 (.int .i64 er) hS8 ?_;(try simp only[s3]);refine aR 14 5 (.int .i64 p1) hS8 ?_;(try simp only[s3]);refine aR 15 6 (.int .i64 p2) hS8 ?_;(try simp only[s3]);refine aR 16 7 (.bool is) hS8 ?_;(try simp only[s3]);refine aR 17 8 (.int .i64 er) hS8 ?_;(try simp only[s3]);refine aw (by kernel_rfl) ?_ _
 by_cases he:er=0
 ·subst he
  cases is with
  | false =>
    obtain rfl:R=5:=by rw[HR2.out];simp
    go_wp2_with fail;go_ret;exact⟨rfl,B8.out⟩
  | true =>
    obtain rfl:R=0:=by rw[HR2.out];simp
    go_wp2_with fail;go_ret;exact⟨rfl,B8.out⟩
 ·obtain rfl:R=er:=by rw[HR2.out,if_pos he]
  have heb:(R != 0)=true:=by simpa using he
  clear he;go_wp2_with fail;go_ret;exact⟨rfl,B8.out⟩
theorem pj (w:World) (x:FV) (F:Fld) (c:Cll) (hF:F.check=0) (h:FldAt w x F) (hk:0≤c.kind∧c.kind≤255) :
 Calls prog 225 #[.agg (bT x F c)] w fun e w'=>e=.returned (.int .i64 (dP F c))∧Below w.heap.size w w':=by
 have hl:=(bb hF).2.1;have hs:=(bb hF).1
 by_cases hr:1≤c.kind∧c.kind≤5
 ·by_cases k1:c.kind=1
  ·have e:cA F c=jQ F c:=by unfold cA;rw[if_pos k1]
   exact fx w x F c hF h hr 285 (.string ⟨#[115,116,111,110,101]⟩) (.func (.func 286) #[] #[]) (fun W=>by rw[k1];kernel_rfl) (enters_of func285 (by kernel_rfl) rfl) (fun W=>e▸xf W x F c (by omega) (by omega))
  ·by_cases k2:c.kind=2
   ·have e:cA F c=jN F c:=by unfold cA;rw[if_neg k1,if_pos k2]
    exact fx w x F c hF h hr 287 (.string ⟨#[119,105,100,116,104]⟩) (.func (.func 288) #[] #[]) (fun W=>by rw[k2];kernel_rfl) (enters_of func287 (by kernel_rfl) rfl) (fun W=>e▸yf W x F c (by omega) (by omega))
   ·by_cases k3:c.kind=3
    ·have e:cA F c=gB F c:=by unfold cA;rw[if_neg k1,if_neg k2,if_pos k3]
     exact fx w x F c hF h hr 289 (.string ⟨#[99,111,117,114,115,101]⟩) (.func (.func 290) #[] #[]) (fun W=>by rw[k3];kernel_rfl) (enters_of func289 (by kernel_rfl) rfl) (fun W=>e▸vU W x F c (by omega) (by omega))
    ·by_cases k4:c.kind=4
     ·have e:cA F c=jJ F c:=by unfold cA;rw[if_neg k1,if_neg k2,if_neg k3,if_pos k4]
      exact fx w x F c hF h hr 291 (.string ⟨#[97,108,111,110,103]⟩) (.func (.func 292) #[] #[]) (fun W=>by rw[k4];kernel_rfl) (enters_of func291 (by kernel_rfl) rfl) (fun W=>e▸xN W x F c (by omega) (by omega))
     ·have k5:c.kind=5:=by omega
      have e:cA F c=kd F c:=by unfold cA;rw[if_neg k1,if_neg k2,if_neg k3,if_neg k4,if_pos k5]
      exact fx w x F c hF h hr 293 (.string ⟨#[108,101,118,101,108]⟩) (.func (.func 294) #[] #[]) (fun W=>by rw[k5];kernel_rfl) (enters_of func293 (by kernel_rfl) rfl) (fun W=>e▸xl W x F c (by omega) (by omega))
 ·have e:dP F c=1:=by
   unfold dP cA;rw[if_neg (show ¬c.kind=1 by omega),if_neg (show ¬c.kind=2 by omega),if_neg (show ¬c.kind=3 by omega),if_neg (show ¬c.kind=4 by omega),if_neg (show ¬c.kind=5 by omega),if_pos rfl]
  rw[e];exact qE w x F c hk hr
def dp (F:Fld) (c:Cll):Int:=if F.check≠0 then F.check else dP F c
theorem jA (w:World) (x:FV) (F:Fld) (c:Cll) (h:FldAt w x F) (hk:0≤c.kind∧c.kind≤255) :
 Calls prog 147 #[x.val F,c.val] w fun e w'=>e=.returned (.int .i64 (dp F c))∧Below w.heap.size w w':=by
 obtain⟨R,hR⟩:=ag (dp F c);rw[hR];unfold dp at hR;obtain⟨w0,hw0⟩:∃W,W=(w.alloc (.cells (x.arr F) 27)).alloc (.cells c.vals 48):=⟨_,rfl⟩;have B0:=aa (show Below w.heap.size w w0 by rw[hw0];exact(aD).alloc (by simp) _)
 have X0:=aa (show Kb [(w.heap.size+1,.cells c.vals 48),(w.heap.size,.cells (x.arr F) 27)] w0 by
  rw[hw0];have:=Kb.alloc (o:=.cells c.vals 48) (Kb.alloc (W:=w) (o:=.cells (x.arr F) 27) (L:=[]) trivial)
  simpa using this)
 have HCF:=aa (fZ w0 x F (h.below B0.out));have HCK:=aa (fun(q:F.check=0) W (hb:Below w.heap.size w W)=>pj W x F c q (h.below hb) hk);have k0:=ak X0.out.2.1;unfold FV.val;have HU:Hid (Value.agg (x.arr F)=.agg #[.slice x.aS F.sts.length x.cS,.slice x.aL F.lms.length x.cL,.slice x.aP F.prs.length x.cP,.slice x.aV F.vrs.length x.cV]):=aa rfl;obtain⟨z,hz⟩:=ag F.check;rw[hz] at HCF hR HCK
 unfold Cll.val FV.val Cll.vals FV.arr at *
 clear hz;go_enter func147,ntmps147;go_upto_region 1 with fail;rw[←hw0];clear hw0;go_wp2_with fail;refine HCF.out.mono ?_;rintro e w1 ⟨rfl,hb1⟩;have X1:=aa (X0.out.next hb1);have B1:=bU B0 hb1;clear hb1 k0 HCF
 by_cases h0:z=0
 rotate_left
 ·rw[if_pos h0] at hR
  have hzb:(z != 0)=true:=by simpa using h0
  subst hR;clear h0;go_wp2_with fail;go_ret;exact⟨rfl,B1.out⟩
 subst h0;rw[if_neg (by omega)] at hR;go_upto_region 4 with fail;refine wp_region_list ?_;refine ah rfl 27 _ rfl _ rfl w.heap.size rfl 27 _ (0,0) _ X1.out.2.1 underlying27 rfl (by kernel_rfl) ?_;refine ah rfl 48 _ rfl _ rfl (w.heap.size+1) rfl 48 _ (0,0) _ X1.out.1 underlying48 rfl (by kernel_rfl) ?_;refine bJ rfl _ _ rfl (bT x F c) (by kernel_rfl) ?_;simp only[Act.put,sA,sB,sC];go_wp2_with fail;refine(HCK.out trivial _ B1.out).mono ?_;rintro e w2 ⟨rfl,hb2⟩;rw[hR];go_wp2_with fail;go_ret;exact⟨rfl,bB B1.out hb2⟩
end Go.Proofs.YtkhemfnlflbniaaGreatDoor
