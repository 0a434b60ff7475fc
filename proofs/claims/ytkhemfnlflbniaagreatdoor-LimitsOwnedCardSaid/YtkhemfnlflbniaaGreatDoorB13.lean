/- Merged text 13 of the base: E5, E6, E7, E8, E9, E10, E11, E12, E13, Y9, Y5, Yh, E19, E23. No conditions beyond those stated. -/
import Derived.Test.YtkhemfnlflbniaaGreatDoorB12
import Derived.Test.YtkhemfnlflbniaaGreatDoorB10
import Derived.Test.YtkhemfnlflbniaaGreatDoorB01
import Derived.Test.YtkhemfnlflbniaaGreatDoorB03
import Derived.Test.YtkhemfnlflbniaaGreatDoorB04
import Derived.Test.YtkhemfnlflbniaaGreatDoorB07
import Derived.Test.YtkhemfnlflbniaaGreatDoorB06
import Derived.Test.YtkhemfnlflbniaaGreatDoorB05
import Derived.Deep.RegionHeld3
set_option maxRecDepth 100000
set_option maxHeartbeats 4000000
namespace Go.Proofs.YtkhemfnlflbniaaGreatDoor
open Go Go.RowKit Go.Shelf Tryz
theorem gq (w:World) (b:Nat) (y:WV) (F:Fld) (l:List Rcd) (i s:Int) (h:WAt w b y F l) (hg:cX F l) (ha:bi F l=true) (hi:bZ F i=true) (hs:aY F s=true) :
 Calls prog 76 #[.pointer (some ⟨b,0,none⟩),.agg #[.int .i64 i,.int .i64 s]] w fun e w'=>e=.returned (.tuple #[.int .i64 (gT F l (eX F i s)),.int .i64 (eF F l (eX F i s))])∧Below w.heap.size w w':=by
 have HP:=aa (fun W (q:WAt W b y F l)=>ir W b y F l i s q hg.fld hi hs)
 have hN:bK (bj F):=by have:=iC hg.fld;unfold bK;omega
 have HR:=aa (fun W (q:WAt W b y F l)=>(by
  have:=wR W (bj F) y.o y.c (aj F l) (eX F i s) hN (Nat.le_trans q.cap.1 q.cap.2) q.bnd;rw[yA hg ha (kh hi hs).2.1] at this
  exact this))
 obtain⟨lo,hlo⟩:=ag (gT F l (eX F i s));obtain⟨hi9,hhi⟩:=ag (eF F l (eX F i s));rw[hlo,hhi] at HR ⊢;obtain⟨p,hp⟩:∃v:Int,((eX F i s:Nat):Int)=v:=⟨_,rfl⟩;rw[hp] at HR HP;obtain⟨P,hP⟩:∃P:Int,((bj F:Nat):Int)=P:=⟨_,rfl⟩;obtain⟨w0,hw0⟩:∃W,W=w.alloc (.cells #[.int .i64 i,.int .i64 s] 30):=⟨_,rfl⟩;have B0:=aa (show Below w.heap.size w w0 by rw[hw0];exact aD);have X0:=aa (show w0.heap[w.heap.size]?=some (.cells #[.int .i64 i,.int .i64 s] 30 (0,0)) by rw[hw0];exact heap_alloc_new _ _);have HX:=h.next B0.out
 have hc1:(y.arr F l)[0]?=some (.int .i64 P):=by rw[←hP];rfl
 have HLT:=aa HX.lt;have HBX:=aa HX.box;have HW:=aa HX;rw[hP] at HR;unfold Sp.arr at HR;clear hlo hhi hp hP h hg ha hi hs hN HX;go_enter func76,ntmps76;go_upto_region 1 with fail;rw[←hw0];clear hw0
 go_cut [6,7] (fun t _ wx=>∃g,t=.pointer (some ⟨g,0,none⟩)∧Hid (wx.heap[g]?=some (.cells #[.int .i64 lo,.int .i64 hi9,.bool true,.bool true] 115 (0,0)))∧Hid (Below w0.heap.size w0 wx))
 case first =>
  refine aJ (S:=Below w0.heap.size w0) (last:=100) (by kernel_rfl) ?_;obtain⟨W0,hW0⟩:∃W,W=w0.drew:=⟨_,rfl⟩
  have hS0:Below w0.heap.size w0 W0:=by rw[hW0];exact(Below.refl _ _).drew
  rw[←hW0];clear hW0;refine aR 0 9 (.pointer (some ⟨b,0,none⟩)) hS0 ?_;(try simp only[s3]);refine aR 1 10 (.pointer (some ⟨b,0,none⟩)) hS0 ?_;(try simp only[s3]);refine aR 2 11 (.pointer (some ⟨b,0,none⟩)) hS0 ?_;(try simp only[s3]);refine tf 3 12 (.agg #[.int .i64 P,.slice y.o (aj F l).length y.c]) hS0 (fun V hV=>?_) ?_
  ·(have z0:V.cell? ⟨b,0,none⟩=some (.int .i64 P):=(ak (ac hV HLT.out HBX.out) 0).trans hc1;have z1:V.cell? ⟨b,1,none⟩=some (.slice y.o (aj F l).length y.c):=(ak (ac hV HLT.out HBX.out) 1).trans rfl;simp[go_sem,execOp,z0,z1])
  (try simp only[s3]);refine aR 4 13 (.pointer (some ⟨b,0,none⟩)) hS0 ?_;(try simp only[s3]);refine tf 5 14 (.agg #[.int .i64 i,.int .i64 s]) hS0 (fun V hV=>?_) ?_
  ·exact gp rfl rfl (ac hV (lt_of_block X0.out) X0.out) underlying30 rfl (by kernel_rfl)
  (try simp only[s3]);refine ei 6 11 rfl rfl (by kernel_rfl) (fun K hK=>?_) (fun K hK=>?_)
  ·go_simp
   go_at_call 83;refine(HP.out _ (HW.out.next hS0)).mono ?_;rintro e wq1 ⟨rfl,hb1⟩;have hS1:Below w0.heap.size w0 wq1:=bB hS0 hb1;clear hb1;go_wp2_with fail;refine hK.out _ _ (.inr hS1) ?_;clear hK K;(try simp only[Act.put,s3]);refine ei 7 11 rfl rfl (by kernel_rfl) (fun K hK=>?_) (fun K hK=>?_)
   ·go_simp
    go_at_call 140;refine(HR.out _ (HW.out.next hS1)).mono ?_;rintro e wq2 ⟨rfl,hb2⟩;have hS2:Below w0.heap.size w0 wq2:=bB hS1 hb2;clear hb2;go_wp2_with fail;refine hK.out _ _ (.inr hS2) ?_;clear hK K;(try simp only[Act.put,s3]);refine aR 8 8 (.tuple #[.agg #[.int .i64 lo,.int .i64 hi9,.bool true,.bool true],.int .i64 0]) hS2 ?_;(try simp only[s3]);refine aR 9 17 (.agg #[.int .i64 lo,.int .i64 hi9,.bool true,.bool true]) hS2 ?_;(try simp only[s3]);refine aR 10 18 (.int .i64 0) hS2 ?_;(try simp only[s3]);refine ae 11 rfl (by kernel_rfl) (fun K hK=>?_);go_simp;obtain⟨wq3,hW3⟩:∃Z,Z=wq2.alloc (.cells #[.int .i64 0,.int .i64 0,.bool false,.bool false] 115):=⟨_,rfl⟩;rw[←hW3]
    have hS3:Below w0.heap.size w0 wq3:=by rw[hW3];exact hS2.alloc hS2.size _
    have XG3:wq3.heap[wq2.heap.size]?=some (.cells #[.int .i64 0,.int .i64 0,.bool false,.bool false] 115 (0,0)):=by rw[hW3];exact heap_alloc_new _ _
    have HGE:w0.heap.size≤wq2.heap.size:=hS2.size;obtain⟨g,hg⟩:=ag wq2.heap.size;rw[hg] at XG3 HGE ⊢;clear hW3 hg;refine hK.out _ _ (.inr hS3) ?_;clear hK K;(try simp only[Act.put,s3]);refine ae 12 rfl (by kernel_rfl) (fun K hK=>?_);refine Eq.mpr (if_pos (by kernel_rfl)) ?_;refine wp_store_row 115 _ _ rfl g #[.int .i64 lo,.int .i64 hi9,.bool true,.bool true] rfl rfl 115 _ XG3 (by kernel_rfl) rfl (by simp[Value.oneCell']) ?_;have XF:=setRow_heap _ _ _ #[.int .i64 lo,.int .i64 hi9,.bool true,.bool true] _ _ XG3;have hSF:=below_setRow (cs:=#[.int .i64 lo,.int .i64 hi9,.bool true,.bool true]) hS3 HGE;refine hK.out _ _ (.inr hSF) ?_;clear hK K;(try simp only[Act.put,sA]);refine aR 13 7 (.int .i64 0) hSF ?_;(try simp only[s3]);refine aw (by kernel_rfl) ?_ _;go_wp2_with fail;go_meet;exact⟨g,rfl,aa XF,aa hSF⟩
   ·go_simp
    obtain⟨wq2,hW2⟩:∃Z,Z=wq1.alloc (.cells #[.int .i64 0,.int .i64 0,.bool false,.bool false] 115):=⟨_,rfl⟩;rw[←hW2]
    have hS2:Below w0.heap.size w0 wq2:=by rw[hW2];exact hS1.alloc hS1.size _
    have XG2:wq2.heap[wq1.heap.size]?=some (.cells #[.int .i64 0,.int .i64 0,.bool false,.bool false] 115 (0,0)):=by rw[hW2];exact heap_alloc_new _ _
    have HGE:w0.heap.size≤wq1.heap.size:=hS1.size;obtain⟨g,hg⟩:=ag wq1.heap.size;rw[hg] at XG2 HGE ⊢;clear hW2 hg;refine hK.out _ _ (.inr hS2) ?_;clear hK K;(try simp only[Act.put,s3]);refine ae 7 rfl (by kernel_rfl) (fun K hK=>?_);go_simp;go_at_call 140;refine(HR.out _ (HW.out.next hS2)).mono ?_;rintro e wq3 ⟨rfl,hb3⟩;have hS3:Below w0.heap.size w0 wq3:=bB hS2 hb3;have XG3:=ac hb3 (lt_of_block XG2) XG2;clear XG2;clear hb3;go_wp2_with fail;refine hK.out _ _ (.inr hS3) ?_;clear hK K;(try simp only[Act.put,s3]);refine aR 8 8 (.tuple #[.agg #[.int .i64 lo,.int .i64 hi9,.bool true,.bool true],.int .i64 0]) hS3 ?_;(try simp only[s3]);refine aR 9 17 (.agg #[.int .i64 lo,.int .i64 hi9,.bool true,.bool true]) hS3 ?_;(try simp only[s3]);refine aR 10 18 (.int .i64 0) hS3 ?_;(try simp only[s3]);refine ae 12 rfl (by kernel_rfl) (fun K hK=>?_);refine Eq.mpr (if_pos (by kernel_rfl)) ?_;refine wp_store_row 115 _ _ rfl g #[.int .i64 lo,.int .i64 hi9,.bool true,.bool true] rfl rfl 115 _ XG3 (by kernel_rfl) rfl (by simp[Value.oneCell']) ?_;have XF:=setRow_heap _ _ _ #[.int .i64 lo,.int .i64 hi9,.bool true,.bool true] _ _ XG3;have hSF:=below_setRow (cs:=#[.int .i64 lo,.int .i64 hi9,.bool true,.bool true]) hS3 HGE;refine hK.out _ _ (.inr hSF) ?_;clear hK K;(try simp only[Act.put,sA]);refine aR 13 7 (.int .i64 0) hSF ?_;(try simp only[s3]);refine aw (by kernel_rfl) ?_ _;go_wp2_with fail;go_meet;exact⟨g,rfl,aa XF,aa hSF⟩
  ·go_simp
   obtain⟨wq1,hW1⟩:∃Z,Z=W0.alloc (.cells #[.int .i64 0,.int .i64 0,.bool false,.bool false] 115):=⟨_,rfl⟩;rw[←hW1]
   have hS1:Below w0.heap.size w0 wq1:=by rw[hW1];exact hS0.alloc hS0.size _
   have XG1:wq1.heap[W0.heap.size]?=some (.cells #[.int .i64 0,.int .i64 0,.bool false,.bool false] 115 (0,0)):=by rw[hW1];exact heap_alloc_new _ _
   have HGE:w0.heap.size≤W0.heap.size:=hS0.size;obtain⟨g,hg⟩:=ag W0.heap.size;rw[hg] at XG1 HGE ⊢;clear hW1 hg;refine hK.out _ _ (.inr hS1) ?_;clear hK K;(try simp only[Act.put,s3]);refine ae 6 rfl (by kernel_rfl) (fun K hK=>?_);go_simp;go_at_call 83;refine(HP.out _ (HW.out.next hS1)).mono ?_;rintro e wq2 ⟨rfl,hb2⟩;have hS2:Below w0.heap.size w0 wq2:=bB hS1 hb2;have XG2:=ac hb2 (lt_of_block XG1) XG1;clear XG1;clear hb2;go_wp2_with fail;refine hK.out _ _ (.inr hS2) ?_;clear hK K;(try simp only[Act.put,s3]);refine ae 7 rfl (by kernel_rfl) (fun K hK=>?_);go_simp;go_at_call 140;refine(HR.out _ (HW.out.next hS2)).mono ?_;rintro e wq3 ⟨rfl,hb3⟩;have hS3:Below w0.heap.size w0 wq3:=bB hS2 hb3;have XG3:=ac hb3 (lt_of_block XG2) XG2;clear XG2;clear hb3;go_wp2_with fail;refine hK.out _ _ (.inr hS3) ?_;clear hK K;(try simp only[Act.put,s3]);refine aR 8 8 (.tuple #[.agg #[.int .i64 lo,.int .i64 hi9,.bool true,.bool true],.int .i64 0]) hS3 ?_;(try simp only[s3]);refine aR 9 17 (.agg #[.int .i64 lo,.int .i64 hi9,.bool true,.bool true]) hS3 ?_;(try simp only[s3]);refine aR 10 18 (.int .i64 0) hS3 ?_;(try simp only[s3]);refine ae 12 rfl (by kernel_rfl) (fun K hK=>?_);refine Eq.mpr (if_pos (by kernel_rfl)) ?_;refine wp_store_row 115 _ _ rfl g #[.int .i64 lo,.int .i64 hi9,.bool true,.bool true] rfl rfl 115 _ XG3 (by kernel_rfl) rfl (by simp[Value.oneCell']) ?_;have XF:=setRow_heap _ _ _ #[.int .i64 lo,.int .i64 hi9,.bool true,.bool true] _ _ XG3;have hSF:=below_setRow (cs:=#[.int .i64 lo,.int .i64 hi9,.bool true,.bool true]) hS3 HGE;refine hK.out _ _ (.inr hSF) ?_;clear hK K;(try simp only[Act.put,sA]);refine aR 13 7 (.int .i64 0) hSF ?_;(try simp only[s3]);refine aw (by kernel_rfl) ?_ _;go_wp2_with fail;go_meet;exact⟨g,rfl,aa XF,aa hSF⟩
 case rest =>
 obtain⟨g,rfl,HG,HB⟩:=hcut;obtain⟨W3,rfl⟩:∃x:World,x=wc:=⟨wc,rfl⟩;have kg:=ak HG.out;clear HG HR HP;go_wp2_with fail
 go_quiet (fail)
 go_wp2_with fail;go_ret2;exact⟨rfl,(bB B0.out HB.out).trans (aA _ _)⟩
theorem zh (w:World) (b:Nat) (y:WV) (F:Fld) (l:List Rcd) (i s:Int) (h:WAt w b y F l) (hg:cX F l) (ha:bi F l=true) (hi:bZ F i=true) (hs:aY F s=true) :
 Calls prog 180 #[.pointer (some ⟨b,0,none⟩),.agg #[.int .i64 i,.int .i64 s]] w fun e w'=>e=.returned (.int .i64 (gT F l (eX F i s)))∧Below w.heap.size w w':=by
 obtain⟨w0,hw0⟩:∃W,W=w.alloc (.cells #[.int .i64 i,.int .i64 s] 30):=⟨_,rfl⟩;have B0:=aa (show Below w.heap.size w w0 by rw[hw0];exact aD);have X0:=(show w0.heap[w.heap.size]?=some (.cells #[.int .i64 i,.int .i64 s] 30 (0,0)) by rw[hw0];exact heap_alloc_new _ _);have HR:=aa (gq w0 b y F l i s (h.next B0.out) hg ha hi hs);obtain⟨lo,hlo⟩:=ag (gT F l (eX F i s));obtain⟨hi9,hhi⟩:=ag (eF F l (eX F i s));rw[hlo,hhi] at HR;rw[hlo];have kk:=ak X0;clear hlo hhi h hg ha hi hs X0;go_enter func180,ntmps180;go_upto_region 1 with fail;rw[←hw0];clear hw0;go_wp2_with fail;refine HR.out.mono ?_;rintro e w1 ⟨rfl,hb1⟩;have B1:=bU B0 hb1;clear hb1 HR kk;go_wp2_with fail;go_ret;exact⟨rfl,B1.out⟩
theorem yu (w:World) (b:Nat) (y:WV) (F:Fld) (l:List Rcd) (i s:Int) (h:WAt w b y F l) (hg:cX F l) (ha:bi F l=true) (hi:bZ F i=true) (hs:aY F s=true) :
 Calls prog 179 #[.pointer (some ⟨b,0,none⟩),.agg #[.int .i64 i,.int .i64 s]] w fun e w'=>e=.returned (.int .i64 (eF F l (eX F i s)))∧Below w.heap.size w w':=by
 obtain⟨w0,hw0⟩:∃W,W=w.alloc (.cells #[.int .i64 i,.int .i64 s] 30):=⟨_,rfl⟩;have B0:=aa (show Below w.heap.size w w0 by rw[hw0];exact aD);have X0:=(show w0.heap[w.heap.size]?=some (.cells #[.int .i64 i,.int .i64 s] 30 (0,0)) by rw[hw0];exact heap_alloc_new _ _);have HR:=aa (gq w0 b y F l i s (h.next B0.out) hg ha hi hs);obtain⟨lo,hlo⟩:=ag (gT F l (eX F i s));obtain⟨hi9,hhi⟩:=ag (eF F l (eX F i s));rw[hlo,hhi] at HR;rw[hhi];have kk:=ak X0;clear hlo hhi h hg ha hi hs X0;go_enter func179,ntmps179;go_upto_region 1 with fail;rw[←hw0];clear hw0;go_wp2_with fail;refine HR.out.mono ?_;rintro e w1 ⟨rfl,hb1⟩;have B1:=bU B0 hb1;clear hb1 HR kk;go_wp2_with fail;go_ret;exact⟨rfl,B1.out⟩
theorem uq (w:World) (b:Nat) (y:WV) (F:Fld) (l:List Rcd) (i s a c:Int) (h:WAt w b y F l) (hF:F.check=0) :
 Calls prog 124 #[.pointer (some ⟨b,0,none⟩),.agg #[.int .i64 i,.int .i64 s,.int .i64 a,.int .i64 c]] w fun e w'=>e=.returned (.bool (cZ F i s a c))∧Below w.heap.size w w':=by
 obtain⟨w0,hw0⟩:∃W,W=w.alloc (.cells #[.int .i64 i,.int .i64 s,.int .i64 a,.int .i64 c] 40):=⟨_,rfl⟩;have B0:=aa (show Below w.heap.size w w0 by rw[hw0];exact aD);have X0:=aa (show w0.heap[w.heap.size]?=some (.cells #[.int .i64 i,.int .i64 s,.int .i64 a,.int .i64 c] 40 (0,0)) by rw[hw0];exact heap_alloc_new _ _);have HC:=aa (fW w0 b y F l i s (h.next B0.out) hF);obtain⟨R,hR⟩:=ag (cZ F i s a c);rw[hR];unfold cZ at hR;obtain⟨p,hp⟩:=ag (bD F i s);rw[hp] at HC hR;have kk:=ak X0.out;clear hp h hF;go_enter func124,ntmps124;go_upto_region 1 with fail;rw[←hw0];clear hw0;go_wp2_with (go_at_call 75;refine HC.out.mono ?_;rintro e w1 ⟨rfl,hb1⟩;(have B1:=bU B0 hb1);(have kk1:=ak (ac hb1 (lt_of_block X0.out) X0.out)))
 all_goals
  go_ret;exact⟨by rw[←hR];first|(simp[*];done)|(simp[*];intros;omega),B1.out⟩
theorem uA {F:Fld} {l:List Rcd} (hg:cX F l):(if(aQ (bj F) (aj F l)).2≠0∨(aQ (bj F) (aj F l)).1=false then(40:Int) else 0)=if bi F l=true then 0 else 40:=by
 unfold aQ bi mB;rw[if_pos (ez hg)]
 cases(aG (bj F) (aj F l)).isSome<;>simp
def cJ (w:World) (x:FV) (F:Fld) (ar:Option Addr) (cr:Nat) (l:List Rcd) (err:Int) (e:Ending) (w':World):Prop :=
 if err=0 then ∃b o c,e=.returned (.tuple #[.pointer (some ⟨b,0,none⟩),.int .i64 0])∧WAt w' b ⟨x,o,c,ar,cr⟩ F l∧w.heap.size≤b∧∀q,o=some q→w.heap.size≤q.block
 else ∃v,e=.returned (.tuple #[v,.int .i64 err])
theorem eT (w:World) (x:FV) (F:Fld) (ar:Option Addr) (cr:Nat) (l:List Rcd) (h:FldAt w x F) (hr:cI w ar l) (hn:l.length≤100000) (hk:∀r∈l,(0≤r.call.kind∧r.call.kind≤255)∧r.deed.size≤9223372036854775807)
 (f:FuncId) (caps:Array Value) (p:Bool) (eg:Enters prog f)
 (hf:cX F l→∀W b o c,WAt W b ⟨x,o,c,ar,cr⟩ F l→Below w.heap.size w W→Calls prog f (#[.pointer (some ⟨b,0,none⟩)]++caps) W fun e w'=>e=.returned (.bool p)∧Below W.heap.size W w') :
 Calls prog 73 #[x.val F,.slice ar l.length cr,.func (.func f) #[] caps] w fun e w'=>cJ w x F ar cr l (aW F l (bq p)) e w'∧Below w.heap.size w w':=by
 obtain⟨w0,hw0⟩:∃W,W=w.alloc (.cells (x.arr F) 27):=⟨_,rfl⟩;have B0:=aa (show Below w.heap.size w w0 by rw[hw0];exact aD);have X0:=(show w0.heap[w.heap.size]?=some (.cells (x.arr F) 27 (0,0)) by rw[hw0];exact heap_alloc_new _ _);have HC:=aa (rW w0 x F ar cr l (h.below B0.out) (hr.below B0.out (Nat.le_refl _)) hn hk);have HF:=aa hf;unfold Enters at eg;have HM:=aa (show aW F l (bq p)=if(cm F l).2≠0 then(cm F l).2 else if bq p≠0 then bq p else if bi F l=true then 0 else 40 from rfl);have HGO:=aa (fun(q:(cm F l).2=0)=>(fM F l).1 q);obtain⟨M,hM⟩:=ag (aW F l (bq p));rw[hM] at HM ⊢;obtain⟨r2,hR⟩:=ag ((cm F l).2);rw[hR] at HC HM HGO;have kk:=ak X0;clear hM hR h hr hn hk hf X0
 unfold FV.val FV.arr at *
 go_enter func73,ntmps73;go_upto_region 1 with fail;rw[←hw0];clear hw0;go_wp2_with fail;refine HC.out.mono ?_;rintro e w1 ⟨hp,hb1⟩;have B1:=bU B0 hb1;have HSZ:=aa B0.out.size;clear hb1 HC kk;unfold iY at hp;have hm:=HM.out
 by_cases h0:r2=0
 rotate_left
 ·have hzb:(r2 != 0)=true:=by simpa using h0
  rw[if_neg h0] at hp;rw[if_pos h0] at hm;subst hp;subst hm;have H0:=aa h0;clear h0;go_wp2_with fail;go_ret2;exact⟨by unfold cJ;rw[if_neg H0.out];exact⟨_,rfl⟩,B1.out⟩
 subst h0;rw[if_pos rfl] at hp;rw[if_neg (show ¬(0:Int)≠0 by simp)] at hm;obtain⟨b,o,c,rfl,hw,hbl,hown⟩:=hp;have HW:=aa hw;have hg:=HGO.out rfl;have hcall:=HF.out hg w1 b o c hw B1.out;have HAG:=aa (fun W (q:WAt W b ⟨x,o,c,ar,cr⟩ F l)=>uQ W b ⟨x,o,c,ar,cr⟩ F l q (by have:=iC hg.fld;unfold bK;omega));rw[uA hg] at HAG;have HBL:=aa (Nat.le_trans HSZ.out hbl);have HOQ:=aa (fun(q:Addr) (e:o=some q)=>Nat.le_trans HSZ.out (jh hown (g:=q.block) (by rw[e];rfl)).2.1);clear hown hw hbl hg HGO HF HM;cases p
 ·rw[if_pos (by simp[bq])] at hm
  have hm2:M=1:=hm;subst hm2;clear hm;go_wp2_with (go_at_fn f;refine hcall.mono ?_;rintro e w' ⟨rfl,hb'⟩);go_ret2;exact⟨by unfold cJ;rw[if_neg (by simp)];exact⟨_,rfl⟩,bB B1.out hb'⟩
 ·rw[if_neg (by simp[bq])] at hm
  rw[←hm] at HAG;have HM2:=aa hm;clear hm;go_wp2_with (go_at_fn f;refine hcall.mono ?_;rintro e w' ⟨rfl,hb'⟩);refine(HAG.out _ (HW.out.next hb')).mono ?_;rintro e w3 ⟨rfl,hb3⟩;have B2:=bU B1 hb';have B3:=bU B2 hb3;have HW3:=aa ((HW.out.next hb').next hb3);clear hb3 hb' hcall HAG;go_wp2_with fail;go_ret2;refine⟨?_,B3.out⟩;unfold cJ
  by_cases q:M=0
  ·rw[if_pos q]
   exact⟨b,o,c,by rw[←q];rfl,HW3.out,HBL.out,HOQ.out⟩
  ·rw[if_neg q]
   exact⟨_,rfl⟩
theorem rQ (W:World) (b g:Nat) (y:WV) (F:Fld) (l:List Rcd) (i s:Int) (h:WAt W b y F l) (hF:F.check=0) (hg:W.heap[g]?=some (.cells #[.int .i64 i,.int .i64 s] 30 (0,0))) :
 Calls prog 74 #[.pointer (some ⟨b,0,none⟩),.pointer (some ⟨g,0,none⟩)] W fun e w'=>e=.returned (.bool (bD F i s))∧Below W.heap.size W w':=by
 have HC:=aa (fW W b y F l i s h hF);have kk:=ak hg;clear h hF hg;go_enter func74,ntmps74;go_wp2_with fail;refine HC.out.mono ?_;rintro e w1 ⟨rfl,hb1⟩;go_wp2_with fail;go_ret;exact⟨rfl,hb1⟩
theorem tu {F:Fld} {i s:Int} (h:bq (bD F i s)=0):bZ F i=true∧aY F s=true:=by
 unfold bq bD at h
 cases p:bZ F i<;>cases q:aY F s<;>simp_all
theorem ub (w:World) (x:FV) (F:Fld) (ar:Option Addr) (cr:Nat) (l:List Rcd) (i s:Int) (h:FldAt w x F) (hr:cI w ar l) (hn:l.length≤100000) (hk:∀r∈l,(0≤r.call.kind∧r.call.kind≤255)∧r.deed.size≤9223372036854775807) :
 Calls prog 24 #[x.val F,.slice ar l.length cr,.agg #[.int .i64 i,.int .i64 s]] w fun e w'=>e=.returned (.tuple #[.int .i64 (jn F l i s).1,.int .i64 (jn F l i s).2.1,.int .i64 (jn F l i s).2.2])∧Below w.heap.size w w':=by
 obtain⟨w0,hw0⟩:∃W,W=(w.alloc (.cells (x.arr F) 27)).alloc (.cells #[.int .i64 i,.int .i64 s] 30):=⟨_,rfl⟩;have B0:=aa (show Below w.heap.size w w0 by rw[hw0];exact(aD).alloc (by simp) _)
 have X0:=aa (show Kb [(w.heap.size+1,.cells #[.int .i64 i,.int .i64 s] 30),(w.heap.size,.cells (x.arr F) 27)] w0 by
  rw[hw0];have:=Kb.alloc (o:=.cells #[.int .i64 i,.int .i64 s] 30) (Kb.alloc (W:=w) (o:=.cells (x.arr F) 27) (L:=[]) trivial)
  simpa using this)
 have HA:=aa (eT w0 x F ar cr l (h.below B0.out) (hr.below B0.out (Nat.le_refl _)) hn hk 74 #[.pointer (some ⟨w.heap.size+1,0,none⟩)] (bD F i s) (enters_of func74 (by kernel_rfl) rfl)
  (fun hg W b o c hw hb=>rQ W b (w.heap.size+1) _ F l i s hw hg.fld (ac hb (lt_of_block X0.out.1) X0.out.1)))
 have HRG:=aa (fun(q:aW F l (bq (bD F i s))=0) W b y (hw:WAt W b y F l)=>(by
  obtain⟨q1,q2,q3⟩:=cx.1 q;obtain⟨q4,q5⟩:=tu q2
  exact gq W b y F l i s hw q1 q3 q4 q5))
 obtain⟨⟨R1,R2,R3⟩,hR⟩:=ag (jn F l i s);rw[hR];unfold jn at hR;obtain⟨M,hM⟩:=ag (aW F l (bq (bD F i s)));rw[hM] at HA HRG hR;have kk:=ak X0.out.2.1;clear hM h hr hn hk
 unfold FV.val FV.arr at *
 go_enter func24,ntmps24;go_upto_region 1 with fail;rw[←hw0];clear hw0;go_wp2_with fail;refine HA.out.mono ?_;rintro e w1 ⟨hp,hb1⟩;have B1:=bU B0 hb1;have X1:=aa (X0.out.next hb1);clear hb1 HA kk X0;unfold cJ at hp
 by_cases h0:M=0
 rotate_left
 ·have hzb:(M != 0)=true:=by simpa using h0
  rw[if_neg h0] at hp;rw[if_pos h0] at hR;obtain⟨v,rfl⟩:=hp;cases hR;clear h0;go_wp2_with fail;refine bodyPost_ret (by simp[results,results24,go_sem]) rfl ⟨rfl,B1.out⟩
 subst h0;rw[if_pos rfl] at hp;rw[if_neg (by simp)] at hR;obtain⟨b,o,c,rfl,hw,hbl⟩:=hp;have HW:=aa hw;have kx:=ak X1.out.1;have HCA:=HRG.out rfl w1 b _ hw;cases hR;clear hw hbl;obtain⟨lo,hlo⟩:=ag (gT F l (eX F i s));obtain⟨hi9,hhi⟩:=ag (eF F l (eX F i s));rw[hlo,hhi] at HCA;have HLO:=aa hlo;have HHI:=aa hhi;clear hlo hhi;have HCB:=aa HCA;clear HCA;go_wp2_with fail;refine HCB.out.mono ?_;rintro e w3 ⟨rfl,hb3⟩;have B3:=bU B1 hb3;clear hb3;go_wp2_with fail;refine bodyPost_ret (v:=.tuple #[.int .i64 lo,.int .i64 hi9,.int .i64 0]) (by simp[results,results24,go_sem]) rfl ⟨by rw[HLO.out,HHI.out],B3.out⟩
theorem uD (W:World) (b g1 g2:Nat) (y:WV) (F:Fld) (l:List Rcd) (i s j t:Int) (h:WAt W b y F l) (hF:F.check=0) (hg1:W.heap[g1]?=some (.cells #[.int .i64 i,.int .i64 s] 30 (0,0))) (hg2:W.heap[g2]?=some (.cells #[.int .i64 j,.int .i64 t] 30 (0,0))) :
 Calls prog 81 #[.pointer (some ⟨b,0,none⟩),.pointer (some ⟨g1,0,none⟩),.pointer (some ⟨g2,0,none⟩)] W fun e w'=>e=.returned (.bool (bD F i s&&bD F j t))∧Below W.heap.size W w':=by
 have HC:=aa (fW W b y F l i s h hF);have HC2:=aa (fun W2 (hb:Below W.heap.size W W2)=>fW W2 b y F l j t (h.next hb) hF);obtain⟨p,hp⟩:=ag (bD F i s);obtain⟨q,hq⟩:=ag (bD F j t);rw[hp] at HC ⊢;rw[hq] at HC2 ⊢;have kk:=ak hg1;have HG2:=aa hg2;clear hp hq h hF hg1 hg2;cases p
 ·go_enter func81,ntmps81
  go_wp2_with (go_at_call 75;refine HC.out.mono ?_;rintro e w1 ⟨rfl,hb1⟩);go_ret;exact⟨rfl,hb1⟩
 ·go_enter func81,ntmps81
  go_wp2_with fail;refine HC.out.mono ?_;rintro e w1 ⟨rfl,hb1⟩;have kk2:=ak (ac hb1 (lt_of_block HG2.out) HG2.out);clear kk;go_wp2_with fail;refine(HC2.out _ hb1).mono ?_;rintro e w2 ⟨rfl,hb2⟩;go_wp2_with fail;go_ret;exact⟨by simp,bB hb1 hb2⟩
theorem lQ {F:Fld} {i s j t:Int} (h:bq (bD F i s&&bD F j t)=0):(bZ F i=true∧aY F s=true)∧bZ F j=true∧aY F t=true:=by
 unfold bq bD at h
 cases p:bZ F i<;>cases q:aY F s<;>cases p2:bZ F j<;>cases q2:aY F t<;>simp_all
theorem uE (w:World) (x:FV) (F:Fld) (ar:Option Addr) (cr:Nat) (l:List Rcd) (i s j t:Int) (h:FldAt w x F) (hr:cI w ar l) (hn:l.length≤100000) (hk:∀r∈l,(0≤r.call.kind∧r.call.kind≤255)∧r.deed.size≤9223372036854775807) :
 Calls prog 26 #[x.val F,.slice ar l.length cr,.agg #[.int .i64 i,.int .i64 s],.agg #[.int .i64 j,.int .i64 t]] w fun e w'=>e=.returned (.tuple #[.int .i64 (lS F l i s j t).1,.int .i64 (lS F l i s j t).2.1,.int .i64 (lS F l i s j t).2.2])∧Below w.heap.size w w':=by
 obtain⟨w0,hw0⟩:∃W,W=((w.alloc (.cells (x.arr F) 27)).alloc (.cells #[.int .i64 i,.int .i64 s] 30)).alloc (.cells #[.int .i64 j,.int .i64 t] 30):=⟨_,rfl⟩;have B0:=aa (show Below w.heap.size w w0 by rw[hw0];exact((aD).alloc (by simp) _).alloc (by simp;omega) _)
 have X0:=aa (show Kb [(w.heap.size+1+1,.cells #[.int .i64 j,.int .i64 t] 30),(w.heap.size+1,.cells #[.int .i64 i,.int .i64 s] 30),(w.heap.size,.cells (x.arr F) 27)] w0 by
  rw[hw0];have:=Kb.alloc (o:=.cells #[.int .i64 j,.int .i64 t] 30) (Kb.alloc (o:=.cells #[.int .i64 i,.int .i64 s] 30) (Kb.alloc (W:=w) (o:=.cells (x.arr F) 27) (L:=[]) trivial))
  simpa using this)
 have HA:=aa (eT w0 x F ar cr l (h.below B0.out) (hr.below B0.out (Nat.le_refl _)) hn hk 81 #[.pointer (some ⟨w.heap.size+1,0,none⟩),.pointer (some ⟨w.heap.size+1+1,0,none⟩)] (bD F i s&&bD F j t) (enters_of func81 (by kernel_rfl) rfl)
  (fun hg W b o c hw hb=>uD W b (w.heap.size+1) (w.heap.size+1+1) _ F l i s j t hw hg.fld (ac hb (lt_of_block X0.out.2.1) X0.out.2.1) (ac hb (lt_of_block X0.out.1) X0.out.1)))
 have HP1:=aa (fun(q:aW F l (bq (bD F i s&&bD F j t))=0) b y W (hw:WAt W b y F l)=>(by
  obtain⟨q1,q2,q3⟩:=cx.1 q;obtain⟨⟨q4,q5⟩,q6,q7⟩:=lQ q2
  exact ir W b y F l i s hw q1.fld q4 q5))
 have HP2:=aa (fun(q:aW F l (bq (bD F i s&&bD F j t))=0) b y W (hw:WAt W b y F l)=>(by
  obtain⟨q1,q2,q3⟩:=cx.1 q;obtain⟨⟨q4,q5⟩,q6,q7⟩:=lQ q2
  exact ir W b y F l j t hw q1.fld q6 q7))
 have HBW:=aa (fun(q:aW F l (bq (bD F i s&&bD F j t))=0) b y W (hw:WAt W b y F l)=>(by
  obtain⟨q1,q2,q3⟩:=cx.1 q;obtain⟨⟨q4,q5⟩,q6,q7⟩:=lQ q2;have:=mt W (bj F) y.o y.c (aj F l) (eX F i s) (eX F j t) (by have:=iC q1.fld;unfold bK;omega) (Nat.le_trans hw.cap.1 hw.cap.2) hw.bnd;rw[nz q1 q3 (kh q4 q5).2.1 (kh q6 q7).2.1] at this
  exact this))
 obtain⟨⟨R1,R2,R3⟩,hR⟩:=ag (lS F l i s j t);rw[hR];unfold lS at hR;obtain⟨M,hM⟩:=ag (aW F l (bq (bD F i s&&bD F j t)));rw[hM] at HA HP1 HP2 HBW hR;have kk:=ak X0.out.2.2.1;clear hM h hr hn hk
 unfold FV.val FV.arr at *
 go_enter func26,ntmps26;go_upto_region 1 with fail;rw[←hw0];clear hw0;go_wp2_with fail;refine HA.out.mono ?_;rintro e w1 ⟨hp,hb1⟩;have B1:=bU B0 hb1;have X1:=aa (X0.out.next hb1);clear hb1 HA kk X0;unfold cJ at hp
 by_cases h0:M=0
 rotate_left
 ·have hzb:(M != 0)=true:=by simpa using h0
  rw[if_neg h0] at hp;rw[if_pos h0] at hR;obtain⟨v,rfl⟩:=hp;cases hR;clear h0;go_wp2_with fail;refine bodyPost_ret (by simp[results,results26,go_sem]) rfl ⟨rfl,B1.out⟩
 subst h0;rw[if_pos rfl] at hp;rw[if_neg (by simp)] at hR;obtain⟨b,o,c,rfl,hw,hbl⟩:=hp;have HW0:=aa hw;have HPA:=HP1.out rfl b ⟨x,o,c,ar,cr⟩;have HPB:=HP2.out rfl b ⟨x,o,c,ar,cr⟩;have HBT:=HBW.out rfl b ⟨x,o,c,ar,cr⟩;cases hR;clear hw hbl HP1 HP2 HBW;obtain⟨lo,hlo⟩:=ag (-aF (bj F) (aj F l) (eX F j t) (eX F i s));obtain⟨hi9,hhi⟩:=ag (aF (bj F) (aj F l) (eX F i s) (eX F j t));obtain⟨p,hp⟩:∃v:Int,((eX F i s:Nat):Int)=v:=⟨_,rfl⟩;obtain⟨q,hq⟩:∃v:Int,((eX F j t:Nat):Int)=v:=⟨_,rfl⟩;obtain⟨P,hP⟩:∃P:Int,((bj F:Nat):Int)=P:=⟨_,rfl⟩
 have hc1:((⟨x,o,c,ar,cr⟩:WV).arr F l)[0]?=some (.int .i64 P):=by rw[←hP];rfl
 rw[hlo,hhi,hp,hq,hP] at HBT;rw[hp] at HPA;rw[hq] at HPB;unfold Sp.arr at HBT;have HLO:=aa hlo;have HHI:=aa hhi;have HQA:=aa HPA;have HQB:=aa HPB;have HR:=aa HBT;clear hlo hhi hp hq hP HPA HPB HBT;go_upto_region 4 with fail
 go_cut [10,12] (fun u t' wx=>∃g,t'=.pointer (some ⟨g,0,none⟩)∧u=.int .i64 0∧Hid (wx.heap[g]?=some (.cells #[.int .i64 lo,.int .i64 hi9,.bool true,.bool true] 115 (0,0)))∧Hid (Below w1.heap.size w1 wx))
 case first =>
  have HW:=HW0;have HLT:=aa HW.out.lt;have HBX:=aa HW.out.box;refine aJ (S:=Below w1.heap.size w1) (last:=100) (by kernel_rfl) ?_;obtain⟨W0,hW0⟩:∃W,W=w1.drew:=⟨_,rfl⟩
  have hS0:Below w1.heap.size w1 W0:=by rw[hW0];exact(Below.refl _ _).drew
  rw[←hW0];clear hW0;refine aR 0 24 (.pointer (some ⟨b,0,none⟩)) hS0 ?_;(try simp only[s3]);refine aR 1 25 (.pointer (some ⟨b,0,none⟩)) hS0 ?_;(try simp only[s3]);refine aR 2 26 (.pointer (some ⟨b,0,none⟩)) hS0 ?_;(try simp only[s3]);refine tf 3 27 (.agg #[.int .i64 P,.slice o (aj F l).length c]) hS0 (fun V hV=>?_) ?_
  ·(have z0:V.cell? ⟨b,0,none⟩=some (.int .i64 P):=(ak (ac hV HLT.out HBX.out) 0).trans hc1;have z1:V.cell? ⟨b,1,none⟩=some (.slice o (aj F l).length c):=(ak (ac hV HLT.out HBX.out) 1).trans rfl;simp[go_sem,execOp,z0,z1])
  (try simp only[s3]);refine aR 4 28 (.pointer (some ⟨b,0,none⟩)) hS0 ?_;(try simp only[s3]);refine tf 5 29 (.agg #[.int .i64 i,.int .i64 s]) hS0 (fun V hV=>?_) ?_
  ·exact gp rfl rfl (ac hV (lt_of_block X1.out.2.1) X1.out.2.1) underlying30 rfl (by kernel_rfl)
  (try simp only[s3]);refine aR 7 31 (.pointer (some ⟨b,0,none⟩)) hS0 ?_;(try simp only[s3]);refine tf 8 32 (.agg #[.int .i64 j,.int .i64 t]) hS0 (fun V hV=>?_) ?_
  ·exact gp rfl rfl (ac hV (lt_of_block X1.out.1) X1.out.1) underlying30 rfl (by kernel_rfl)
  (try simp only[s3]);refine ei 6 14 rfl rfl (by kernel_rfl) (fun K hK=>?_) (fun K hK=>?_)
  ·go_simp
   go_at_call 83;refine(HQA.out _ (HW.out.next hS0)).mono ?_;rintro e wq1 ⟨rfl,hb1⟩;have hS1:Below w1.heap.size w1 wq1:=bB hS0 hb1;clear hb1;go_wp2_with fail;refine hK.out _ _ (.inr hS1) ?_;clear hK K;(try simp only[Act.put,s3]);refine ei 9 14 rfl rfl (by kernel_rfl) (fun K hK=>?_) (fun K hK=>?_)
   ·go_simp
    go_at_call 83;refine(HQB.out _ (HW.out.next hS1)).mono ?_;rintro e wq2 ⟨rfl,hb2⟩;have hS2:Below w1.heap.size w1 wq2:=bB hS1 hb2;clear hb2;go_wp2_with fail;refine hK.out _ _ (.inr hS2) ?_;clear hK K;(try simp only[Act.put,s3]);refine ei 10 14 rfl rfl (by kernel_rfl) (fun K hK=>?_) (fun K hK=>?_)
    ·go_simp
     go_at_call 82;refine(HR.out _ (HW.out.next hS2)).mono ?_;rintro e wq3 ⟨rfl,hb3⟩;have hS3:Below w1.heap.size w1 wq3:=bB hS2 hb3;clear hb3;go_wp2_with fail;refine hK.out _ _ (.inr hS3) ?_;clear hK K;(try simp only[Act.put,s3]);refine aR 11 23 (.tuple #[.agg #[.int .i64 lo,.int .i64 hi9,.bool true,.bool true],.int .i64 0]) hS3 ?_;(try simp only[s3]);refine aR 12 35 (.agg #[.int .i64 lo,.int .i64 hi9,.bool true,.bool true]) hS3 ?_;(try simp only[s3]);refine aR 13 36 (.int .i64 0) hS3 ?_;(try simp only[s3]);refine ae 14 rfl (by kernel_rfl) (fun K hK=>?_);go_simp;obtain⟨wq4,hW4⟩:∃Z,Z=wq3.alloc (.cells #[.int .i64 0,.int .i64 0,.bool false,.bool false] 115):=⟨_,rfl⟩;rw[←hW4]
     have hS4:Below w1.heap.size w1 wq4:=by rw[hW4];exact hS3.alloc hS3.size _
     have XG4:wq4.heap[wq3.heap.size]?=some (.cells #[.int .i64 0,.int .i64 0,.bool false,.bool false] 115 (0,0)):=by rw[hW4];exact heap_alloc_new _ _
     have HGE:w1.heap.size≤wq3.heap.size:=hS3.size;obtain⟨g,hg⟩:=ag wq3.heap.size;rw[hg] at XG4 HGE ⊢;clear hW4 hg;refine hK.out _ _ (.inr hS4) ?_;clear hK K;(try simp only[Act.put,s3]);refine ae 15 rfl (by kernel_rfl) (fun K hK=>?_);refine Eq.mpr (if_pos (by kernel_rfl)) ?_;refine wp_store_row 115 _ _ rfl g #[.int .i64 lo,.int .i64 hi9,.bool true,.bool true] rfl rfl 115 _ XG4 (by kernel_rfl) rfl (by simp[Value.oneCell']) ?_;have XF:=setRow_heap _ _ _ #[.int .i64 lo,.int .i64 hi9,.bool true,.bool true] _ _ XG4;have hSF:=below_setRow (cs:=#[.int .i64 lo,.int .i64 hi9,.bool true,.bool true]) hS4 HGE;refine hK.out _ _ (.inr hSF) ?_;clear hK K;(try simp only[Act.put,sA]);refine aR 16 10 (.int .i64 0) hSF ?_;(try simp only[s3]);refine aw (by kernel_rfl) ?_ _;go_wp2_with fail;go_meet;exact⟨g,rfl,rfl,aa XF,aa hSF⟩
    ·go_simp
     obtain⟨wq3,hW3⟩:∃Z,Z=wq2.alloc (.cells #[.int .i64 0,.int .i64 0,.bool false,.bool false] 115):=⟨_,rfl⟩;rw[←hW3]
     have hS3:Below w1.heap.size w1 wq3:=by rw[hW3];exact hS2.alloc hS2.size _
     have XG3:wq3.heap[wq2.heap.size]?=some (.cells #[.int .i64 0,.int .i64 0,.bool false,.bool false] 115 (0,0)):=by rw[hW3];exact heap_alloc_new _ _
     have HGE:w1.heap.size≤wq2.heap.size:=hS2.size;obtain⟨g,hg⟩:=ag wq2.heap.size;rw[hg] at XG3 HGE ⊢;clear hW3 hg;refine hK.out _ _ (.inr hS3) ?_;clear hK K;(try simp only[Act.put,s3]);refine ae 10 rfl (by kernel_rfl) (fun K hK=>?_);go_simp;go_at_call 82;refine(HR.out _ (HW.out.next hS3)).mono ?_;rintro e wq4 ⟨rfl,hb4⟩;have hS4:Below w1.heap.size w1 wq4:=bB hS3 hb4;have XG4:=ac hb4 (lt_of_block XG3) XG3;clear XG3;clear hb4;go_wp2_with fail;refine hK.out _ _ (.inr hS4) ?_;clear hK K;(try simp only[Act.put,s3]);refine aR 11 23 (.tuple #[.agg #[.int .i64 lo,.int .i64 hi9,.bool true,.bool true],.int .i64 0]) hS4 ?_;(try simp only[s3]);refine aR 12 35 (.agg #[.int .i64 lo,.int .i64 hi9,.bool true,.bool true]) hS4 ?_;(try simp only[s3]);refine aR 13 36 (.int .i64 0) hS4 ?_;(try simp only[s3]);refine ae 15 rfl (by kernel_rfl) (fun K hK=>?_);refine Eq.mpr (if_pos (by kernel_rfl)) ?_;refine wp_store_row 115 _ _ rfl g #[.int .i64 lo,.int .i64 hi9,.bool true,.bool true] rfl rfl 115 _ XG4 (by kernel_rfl) rfl (by simp[Value.oneCell']) ?_;have XF:=setRow_heap _ _ _ #[.int .i64 lo,.int .i64 hi9,.bool true,.bool true] _ _ XG4;have hSF:=below_setRow (cs:=#[.int .i64 lo,.int .i64 hi9,.bool true,.bool true]) hS4 HGE;refine hK.out _ _ (.inr hSF) ?_;clear hK K;(try simp only[Act.put,sA]);refine aR 16 10 (.int .i64 0) hSF ?_;(try simp only[s3]);refine aw (by kernel_rfl) ?_ _;go_wp2_with fail;go_meet;exact⟨g,rfl,rfl,aa XF,aa hSF⟩
   ·go_simp
    obtain⟨wq2,hW2⟩:∃Z,Z=wq1.alloc (.cells #[.int .i64 0,.int .i64 0,.bool false,.bool false] 115):=⟨_,rfl⟩;rw[←hW2]
    have hS2:Below w1.heap.size w1 wq2:=by rw[hW2];exact hS1.alloc hS1.size _
    have XG2:wq2.heap[wq1.heap.size]?=some (.cells #[.int .i64 0,.int .i64 0,.bool false,.bool false] 115 (0,0)):=by rw[hW2];exact heap_alloc_new _ _
    have HGE:w1.heap.size≤wq1.heap.size:=hS1.size;obtain⟨g,hg⟩:=ag wq1.heap.size;rw[hg] at XG2 HGE ⊢;clear hW2 hg;refine hK.out _ _ (.inr hS2) ?_;clear hK K;(try simp only[Act.put,s3]);refine ae 9 rfl (by kernel_rfl) (fun K hK=>?_);go_simp;go_at_call 83;refine(HQB.out _ (HW.out.next hS2)).mono ?_;rintro e wq3 ⟨rfl,hb3⟩;have hS3:Below w1.heap.size w1 wq3:=bB hS2 hb3;have XG3:=ac hb3 (lt_of_block XG2) XG2;clear XG2;clear hb3;go_wp2_with fail;refine hK.out _ _ (.inr hS3) ?_;clear hK K;(try simp only[Act.put,s3]);refine ae 10 rfl (by kernel_rfl) (fun K hK=>?_);go_simp;go_at_call 82;refine(HR.out _ (HW.out.next hS3)).mono ?_;rintro e wq4 ⟨rfl,hb4⟩;have hS4:Below w1.heap.size w1 wq4:=bB hS3 hb4;have XG4:=ac hb4 (lt_of_block XG3) XG3;clear XG3;clear hb4;go_wp2_with fail;refine hK.out _ _ (.inr hS4) ?_;clear hK K;(try simp only[Act.put,s3]);refine aR 11 23 (.tuple #[.agg #[.int .i64 lo,.int .i64 hi9,.bool true,.bool true],.int .i64 0]) hS4 ?_;(try simp only[s3]);refine aR 12 35 (.agg #[.int .i64 lo,.int .i64 hi9,.bool true,.bool true]) hS4 ?_;(try simp only[s3]);refine aR 13 36 (.int .i64 0) hS4 ?_;(try simp only[s3]);refine ae 15 rfl (by kernel_rfl) (fun K hK=>?_);refine Eq.mpr (if_pos (by kernel_rfl)) ?_;refine wp_store_row 115 _ _ rfl g #[.int .i64 lo,.int .i64 hi9,.bool true,.bool true] rfl rfl 115 _ XG4 (by kernel_rfl) rfl (by simp[Value.oneCell']) ?_;have XF:=setRow_heap _ _ _ #[.int .i64 lo,.int .i64 hi9,.bool true,.bool true] _ _ XG4;have hSF:=below_setRow (cs:=#[.int .i64 lo,.int .i64 hi9,.bool true,.bool true]) hS4 HGE;refine hK.out _ _ (.inr hSF) ?_;clear hK K;(try simp only[Act.put,sA]);refine aR 16 10 (.int .i64 0) hSF ?_;(try simp only[s3]);refine aw (by kernel_rfl) ?_ _;go_wp2_with fail;go_meet;exact⟨g,rfl,rfl,aa XF,aa hSF⟩
  ·go_simp
   obtain⟨wq1,hW1⟩:∃Z,Z=W0.alloc (.cells #[.int .i64 0,.int .i64 0,.bool false,.bool false] 115):=⟨_,rfl⟩;rw[←hW1]
   have hS1:Below w1.heap.size w1 wq1:=by rw[hW1];exact hS0.alloc hS0.size _
   have XG1:wq1.heap[W0.heap.size]?=some (.cells #[.int .i64 0,.int .i64 0,.bool false,.bool false] 115 (0,0)):=by rw[hW1];exact heap_alloc_new _ _
   have HGE:w1.heap.size≤W0.heap.size:=hS0.size;obtain⟨g,hg⟩:=ag W0.heap.size;rw[hg] at XG1 HGE ⊢;clear hW1 hg;refine hK.out _ _ (.inr hS1) ?_;clear hK K;(try simp only[Act.put,s3]);refine ae 6 rfl (by kernel_rfl) (fun K hK=>?_);go_simp;go_at_call 83;refine(HQA.out _ (HW.out.next hS1)).mono ?_;rintro e wq2 ⟨rfl,hb2⟩;have hS2:Below w1.heap.size w1 wq2:=bB hS1 hb2;have XG2:=ac hb2 (lt_of_block XG1) XG1;clear XG1;clear hb2;go_wp2_with fail;refine hK.out _ _ (.inr hS2) ?_;clear hK K;(try simp only[Act.put,s3]);refine ae 9 rfl (by kernel_rfl) (fun K hK=>?_);go_simp;go_at_call 83;refine(HQB.out _ (HW.out.next hS2)).mono ?_;rintro e wq3 ⟨rfl,hb3⟩;have hS3:Below w1.heap.size w1 wq3:=bB hS2 hb3;have XG3:=ac hb3 (lt_of_block XG2) XG2;clear XG2;clear hb3;go_wp2_with fail;refine hK.out _ _ (.inr hS3) ?_;clear hK K;(try simp only[Act.put,s3]);refine ae 10 rfl (by kernel_rfl) (fun K hK=>?_);go_simp;go_at_call 82;refine(HR.out _ (HW.out.next hS3)).mono ?_;rintro e wq4 ⟨rfl,hb4⟩;have hS4:Below w1.heap.size w1 wq4:=bB hS3 hb4;have XG4:=ac hb4 (lt_of_block XG3) XG3;clear XG3;clear hb4;go_wp2_with fail;refine hK.out _ _ (.inr hS4) ?_;clear hK K;(try simp only[Act.put,s3]);refine aR 11 23 (.tuple #[.agg #[.int .i64 lo,.int .i64 hi9,.bool true,.bool true],.int .i64 0]) hS4 ?_;(try simp only[s3]);refine aR 12 35 (.agg #[.int .i64 lo,.int .i64 hi9,.bool true,.bool true]) hS4 ?_;(try simp only[s3]);refine aR 13 36 (.int .i64 0) hS4 ?_;(try simp only[s3]);refine ae 15 rfl (by kernel_rfl) (fun K hK=>?_);refine Eq.mpr (if_pos (by kernel_rfl)) ?_;refine wp_store_row 115 _ _ rfl g #[.int .i64 lo,.int .i64 hi9,.bool true,.bool true] rfl rfl 115 _ XG4 (by kernel_rfl) rfl (by simp[Value.oneCell']) ?_;have XF:=setRow_heap _ _ _ #[.int .i64 lo,.int .i64 hi9,.bool true,.bool true] _ _ XG4;have hSF:=below_setRow (cs:=#[.int .i64 lo,.int .i64 hi9,.bool true,.bool true]) hS4 HGE;refine hK.out _ _ (.inr hSF) ?_;clear hK K;(try simp only[Act.put,sA]);refine aR 16 10 (.int .i64 0) hSF ?_;(try simp only[s3]);refine aw (by kernel_rfl) ?_ _;go_wp2_with fail;go_meet;exact⟨g,rfl,rfl,aa XF,aa hSF⟩
 case rest =>
 obtain⟨g,rfl,rfl,HG,HB⟩:=hcut;obtain⟨W3,rfl⟩:∃x:World,x=wc:=⟨wc,rfl⟩;have kg:=ak HG.out;clear HG HR HQA HQB;go_wp2_with fail
 go_quiet (fail)
 go_wp2_with fail;refine bodyPost_ret (v:=.tuple #[.int .i64 lo,.int .i64 hi9,.int .i64 0]) (by simp[results,results26,go_sem]) rfl ⟨by rw[HLO.out,HHI.out],(bB B1.out HB.out).trans (aA _ _)⟩
def Par.vals (p:Par):Array Value:=#[.string p.name,.int .i64 p.south,.int .i64 p.wst,.int .i64 p.est]
theorem vo (w:World) (b:Nat) (y:WV) (F:Fld) (l:List Rcd) (k:Nat) (s:Int) (h:WAt w b y F l) (hk:k<F.prs.length) :
 Calls prog 103 #[.pointer (some ⟨b,0,none⟩),.int .i64 (k:Int),.int .i64 s] w fun e w'=>e=.returned (.bool (rf (cN F k) s))∧Below w.heap.size w w':=by
 obtain⟨pb,po,e1,hbl,hcc⟩:=RecsAt.at h.fld.pr hk
 have ep:F.prs[k]=cN F k:=by unfold cN;simp[List.getD_eq_getElem?_getD,hk]
 rw[ep] at hcc;obtain⟨p,hp⟩:=ag (cN F k);rw[hp] at hcc ⊢
 have HRG:=aa (fun(j:Nat) (v:Value) (hv:p.vals.toList[j]?=some v)=>(by
  have hj:j<4:=(List.getElem?_eq_some_iff.1 hv).1
  exact(hcc j hj).trans (show p.cells[j]?=some v from hv):w.cell? ⟨pb,po+k*4+j,none⟩=some v))
 have HRG2:=aa (show w.rangeAt pb (po+k*4) p.vals.toList from HRG.out);have kk:=ak h.box;unfold WV.arr at kk;rw[e1] at kk;unfold rf;clear ep hp hcc h HRG e1;go_enter func103,ntmps103;go_upto_region 2 with (first|(refine wpList_load_mid rfl 133 _ rfl pb (po+k*4) rfl _ _ HRG2.out underlying133 rfl (by kernel_rfl) ?_)|(refine wpList_store_row rfl 133 _ _ rfl w.heap.size p.vals rfl rfl 133 _ (heap_alloc_new _ _) (by kernel_rfl) (by kernel_rfl) (by simp[Par.vals,Value.oneCell']) ?_;rw[World.setRow_alloc_new]));refine mj ?_;intro W2 hW2;have HB2:=aa (show Below w.heap.size w W2 by rw[hW2];exact aD);have kr:=ak (show W2.heap[w.heap.size]?=some (.cells p.vals 133 (0,0)) by rw[hW2];exact heap_alloc_new _ _);unfold Par.vals at kr;clear hW2 HRG2 kk hbl
 by_cases q1:p.wst≤s
 ·by_cases q2:s<p.est
  ·go_wp2_with fail
   go_ret;exact⟨by simp[q1,q2],HB2.out⟩
  ·go_wp2_with fail
   go_ret;exact⟨by simp;omega,HB2.out⟩
 ·go_wp2_with fail
  go_ret;exact⟨by simp;omega,HB2.out⟩
theorem k7 {P:Program} {fn:Func} {p u:Tmp} {ty ty2:TypeId} (h:fn.results=#[.cell p ty,.cell u ty2]) (tmps:Array Value) (w:World) (g g2:Nat) (t t2:TypeId) (cs cs2:Array Value) (fr fr2:Nat×Nat) (d d2:TypeDesc)
 (hp:tmps.getD p undef=.pointer (some ⟨g,0,none⟩)) (hg:w.heap[g]?=some (.cells cs t fr))
 (hu:P.underlying ty=some d) (hd:(match d with|.struct _|.array _ _=>true|_=>false)=true) (hi:(P.info? ty).map (·.size)=some cs.size)
 (hp2:tmps.getD u undef=.pointer (some ⟨g2,0,none⟩)) (hg2:w.heap[g2]?=some (.cells cs2 t2 fr2))
 (hu2:P.underlying ty2=some d2) (hd2:(match d2 with|.struct _|.array _ _=>true|_=>false)=true) (hi2:(P.info? ty2).map (·.size)=some cs2.size) :
 (results fn tmps).run P w=.ok (.tuple #[.agg cs,.agg cs2]) w:=by
 have hp':tmps[p]?.getD undef=.pointer (some ⟨g,0,none⟩):=by simpa using hp
 have hp2':tmps[u]?.getD undef=.pointer (some ⟨g2,0,none⟩):=by simpa using hp2
 simp[results,h,hp',hp2',asAddr,run_loadVar_row w g t ty cs fr d hg hu hd hi,run_loadVar_row w g2 t2 ty2 cs2 fr2 d2 hg2 hu2 hd2 hi2]
theorem ur (w:World) (b:Nat) (y:WV) (F:Fld) (l:List Rcd) (k:Nat) (s:Int) (h:WAt w b y F l) (hk:k<F.prs.length) (hp9:0≤(cN F k).south∧(cN F k).south≤1000) :
 Calls prog 178 #[.pointer (some ⟨b,0,none⟩),.int .i64 (k:Int),.int .i64 s] w fun e w'=>e=.returned (.tuple #[.agg #[.int .i64 (cN F k).south,.int .i64 s],.agg #[.int .i64 ((cN F k).south+1),.int .i64 s]])∧Below w.heap.size w w':=by
 obtain⟨w0,hw0⟩:∃W,W=(w.alloc (.cells #[.int .i64 0,.int .i64 0] 30)).alloc (.cells #[.int .i64 0,.int .i64 0] 30):=⟨_,rfl⟩;have B0:=aa (show Below w.heap.size w w0 by rw[hw0];exact(aD).alloc (by simp) _)
 have X0:=aa (show Kb [(w.heap.size+1,.cells #[.int .i64 0,.int .i64 0] 30),(w.heap.size,.cells #[.int .i64 0,.int .i64 0] 30)] w0 by
  rw[hw0];have:=Kb.alloc (o:=.cells #[.int .i64 0,.int .i64 0] 30) (Kb.alloc (W:=w) (o:=.cells #[.int .i64 0,.int .i64 0] 30) (L:=[]) trivial)
  simpa using this)
 have h0:=h.next B0.out;obtain⟨pb,po,e1,hbl,hcc⟩:=RecsAt.at h0.fld.pr hk
 have ep:F.prs[k]=cN F k:=by unfold cN;simp[List.getD_eq_getElem?_getD,hk]
 rw[ep] at hcc;obtain⟨p,hp⟩:=ag ((cN F k).south);have c1:w0.cell? ⟨pb,po+k*4+1,none⟩=some (.int .i64 p):=(hcc 1 (by decide)).trans (by rw[←hp];rfl);rw[hp] at hp9 ⊢;have wp1:IntKind.i64.wrap (p+1)=p+1:=IntWalk.i64_in _ (by omega);have kk:=ak h0.box;unfold WV.arr at kk;rw[e1] at kk;clear ep hp hcc h h0 e1 hp9 hbl;go_enter func178,ntmps178;go_upto_region 1 with fail;rw[←hw0];clear hw0;go_wp2_with (first|(refine wpList_store_row rfl 30 _ _ rfl w.heap.size #[.int .i64 p,.int .i64 s] rfl rfl 30 _ X0.out.2.1 (by kernel_rfl) rfl (by simp[Value.oneCell']) ?_)|(refine wpList_store_row rfl 30 _ _ rfl (w.heap.size+1) #[.int .i64 (p+1),.int .i64 s] rfl rfl 30 _ ((setRow_other _ _ _ _ (by omega)).trans X0.out.1) (by kernel_rfl) rfl (by simp[Value.oneCell']) ?_));refine bodyPost_ret (k7 results178 _ _ w.heap.size (w.heap.size+1) 30 30 #[.int .i64 p,.int .i64 s] #[.int .i64 (p+1),.int .i64 s] (0,0) (0,0) _ _ rfl ((setRow_other _ _ _ _ (by omega)).trans (setRow_heap _ _ _ _ _ _ X0.out.2.1)) underlying30 rfl (by kernel_rfl) rfl (setRow_heap _ _ _ _ _ _ ((setRow_other _ _ _ _ (by omega)).trans X0.out.1)) underlying30 rfl (by kernel_rfl)) rfl ⟨rfl,below_setRow (below_setRow B0.out (Nat.le_refl w.heap.size) _) (Nat.le_succ w.heap.size) _⟩
theorem wT (w:World) (b:Nat) (y:WV) (F:Fld) (l:List Rcd) (k:Nat) (s:Int) (h:WAt w b y F l) (hk:k<F.prs.length) (hg:cX F l) (ha:bi F l=true) (hs:aY F s=true) :
 Calls prog 104 #[.pointer (some ⟨b,0,none⟩),.int .i64 (k:Int),.int .i64 s] w fun e w'=>e=.returned (.tuple #[.int .i64 (mI F l (cN F k) s).1,.int .i64 (mI F l (cN F k) s).2])∧Below w.heap.size w w':=by
 have hm:cN F k∈F.prs:=by unfold cN;simp[List.getD_eq_getElem?_getD,hk]
 obtain⟨hl1,hl2⟩:=zS hg.fld hm;have hb1:=dZ.1 hl1;have fl:=(bb hg.fld).2.1;have HSD:=aa (ur w b y F l k s h hk (by omega));have HHI:=aa (fun W (hw:WAt W b y F l)=>yu W b y F l (cN F k).south s hw hg ha hl1 hs);have HLO:=aa (fun W (hw:WAt W b y F l)=>zh W b y F l ((cN F k).south+1) s hw hg ha hl2 hs);have HW:=aa h;unfold mI;obtain⟨p,hp⟩:=ag ((cN F k).south);obtain⟨v1,hv1⟩:=ag (eF F l (eX F (cN F k).south s));obtain⟨v2,hv2⟩:=ag (gT F l (eX F ((cN F k).south+1) s));rw[hv1] at HHI;rw[hv2] at HLO;dsimp only;rw[hv1,hv2];rw[hp] at HSD HHI HLO;clear hm hl1 hl2 hb1 fl hp hv1 hv2 h hk hg ha hs;go_enter func104,ntmps104;go_wp2_with fail;refine HSD.out.mono ?_;rintro e w1 ⟨rfl,hb1⟩;have B1:=aa hb1;have W1:=aa (HW.out.next hb1);clear hb1 HSD HW
 have HK:=aa (show Kb [(w1.heap.size+1,.cells #[.int .i64 0,.int .i64 0] 30),(w1.heap.size,.cells #[.int .i64 0,.int .i64 0] 30)] ((w1.alloc (.cells #[.int .i64 0,.int .i64 0] 30)).alloc (.cells #[.int .i64 0,.int .i64 0] 30)) by
  have:=Kb.alloc (o:=.cells #[.int .i64 0,.int .i64 0] 30) (Kb.alloc (W:=w1) (o:=.cells #[.int .i64 0,.int .i64 0] 30) (L:=[]) trivial)
  simpa using this)
 go_upto_region 2 with (first|(refine wpList_store_row rfl 30 _ _ rfl w1.heap.size #[.int .i64 p,.int .i64 s] rfl rfl 30 _ HK.out.2.1 (by kernel_rfl) rfl (by simp[Value.oneCell']) ?_)|(refine wpList_store_row rfl 30 _ _ rfl (w1.heap.size+1) #[.int .i64 (p+1),.int .i64 s] rfl rfl 30 _ ((setRow_other _ _ _ _ (by omega)).trans HK.out.1) (by kernel_rfl) rfl (by simp[Value.oneCell']) ?_));refine mj ?_;intro W3 hW3;have XP:=aa (show W3.heap[w1.heap.size]?=some (.cells #[.int .i64 p,.int .i64 s] 30 (0,0)) by rw[hW3];exact(setRow_other _ _ _ _ (by omega)).trans (setRow_heap _ _ _ _ _ _ HK.out.2.1));have XQ:=aa (show W3.heap[w1.heap.size+1]?=some (.cells #[.int .i64 (p+1),.int .i64 s] 30 (0,0)) by rw[hW3];exact setRow_heap _ _ _ _ _ _ ((setRow_other _ _ _ _ (by omega)).trans HK.out.1))
 have hb3:Below w1.heap.size w1 W3:=by
  rw[hW3];exact below_setRow (below_setRow ((aD).alloc (by simp) _) (Nat.le_refl w1.heap.size) _) (Nat.le_succ w1.heap.size) _
 have B3:=bU B1 hb3;have W3A:=aa (W1.out.next hb3);have kp:=ak XP.out;obtain⟨A,hA⟩:=ag w1.heap.size;rw[hA] at XP XQ kp ⊢;simp only[Act.put];clear hW3 hb3 HK hA B1 W1;go_wp2_with fail;refine(HHI.out _ W3A.out).mono ?_;rintro e w4 ⟨rfl,hb4⟩;have kq:=ak (ac hb4 (lt_of_block XQ.out) XQ.out);have W4A:=aa (W3A.out.next hb4);have B4:=bU B3 hb4;clear hb4 kp XP XQ HHI;go_wp2_with fail;refine(HLO.out _ W4A.out).mono ?_;rintro e w5 ⟨rfl,hb5⟩;have B5:=bU B4 hb5;clear hb5 kq;go_wp2_with fail;go_ret2;exact⟨rfl,B5.out⟩
theorem yx (W:World) (b g1 g2:Nat) (y:WV) (F:Fld) (l:List Rcd) (k s:Int) (h:WAt W b y F l) (hF:F.check=0) (hg1:W.heap[g1]?=some (.cells #[.int .i64 k] 3 (0,0))) (hg2:W.heap[g2]?=some (.cells #[.int .i64 s] 3 (0,0))) :
 Calls prog 101 #[.pointer (some ⟨b,0,none⟩),.pointer (some ⟨g1,0,none⟩),.pointer (some ⟨g2,0,none⟩)] W fun e w'=>e=.returned (.bool (bm k 0 ((F.prs.length:Int)-1)&&aY F s))∧Below W.heap.size W w':=by
 have fs:=(bb hF).1
 have fp:F.prs.length≤1000:=by have:=bb hF;omega
 have wl:IntKind.i64.wrap ((F.prs.length:Int)-1)=(F.prs.length:Int)-1:=IntWalk.i64_in _ (by omega);have ws:IntKind.i64.wrap ((F.sts.length:Int)-1)=(F.sts.length:Int)-1:=IntWalk.i64_in _ (by omega);have H1:=aa (fun W=>fK k 0 ((F.prs.length:Int)-1) W);have H2:=aa (fun W=>fK s 0 ((F.sts.length:Int)-1) W);unfold aY;obtain⟨p,hp⟩:=ag (bm k 0 ((F.prs.length:Int)-1));obtain⟨q,hq⟩:=ag (bm s 0 ((F.sts.length:Int)-1));rw[hp] at H1 ⊢;rw[hq] at H2 ⊢;have HX:=h;have G1:=aa hg1;have G2:=aa hg2;clear hp hq h hF hg1 hg2 fs fp;have hS0:Below W.heap.size W W.drew:=(Below.refl _ _).drew;go_enter func101,ntmps101;go_upto_region 1 with fail
 cases p with
 | false =>
   refine aJ (S:=Below W.heap.size W) (last:=100) (by kernel_rfl) ?_;refine tf 0 5 (.int .i64 k) hS0 (fun V hV=>?_) ?_
   ·(have z:V.cell? ⟨g1,0,none⟩=some (.int .i64 k):=ce (i:=0) (ac hV (lt_of_block G1.out) G1.out) rfl;simp[go_sem,execOp,z])
   (try simp only[s3]);refine aR 1 6 (.pointer (some ⟨b,0,none⟩)) hS0 ?_;(try simp only[s3]);refine aR 2 7 (.pointer (some ⟨b,0,none⟩)) hS0 ?_;(try simp only[s3]);refine aR 3 8 (.pointer (some ⟨b,2,none⟩)) hS0 ?_;(try simp only[s3]);refine aR 4 9 (.pointer (some ⟨b,4,none⟩)) hS0 ?_;(try simp only[s3]);refine tf 5 10 (.slice y.x.aP F.prs.length y.x.cP) hS0 (fun V hV=>?_) ?_
   ·(have z:V.cell? ⟨b,4,none⟩=some (.slice y.x.aP F.prs.length y.x.cP):=ce (i:=4) (ac hV HX.lt HX.box) rfl;simp[go_sem,execOp,z])
   (try simp only[s3]);refine aR 6 11 (.int .i64 ((F.prs.length:Int))) hS0 ?_;(try simp only[s3]);refine tf 7 12 (.int .i64 ((F.prs.length:Int)-1)) hS0 (fun V hV=>?_) ?_
   ·simp[go_sem,execOp,wl]
   (try simp only[s3]);refine ae 8 rfl (by kernel_rfl) (fun K hK=>?_);go_simp;go_at_call 102;refine(H1.out _).mono ?_;rintro e wq ⟨rfl,rfl⟩;have hS1:=hS0;go_wp2_with fail;refine hK.out _ _ (.inr hS1) ?_;clear hK K;(try simp only[Act.put,s3]);refine aR 9 14 (.bool false) hS1 ?_;(try simp only[s3]);refine tO 10 15 rfl (by kernel_rfl) rfl (fun _ _ _ h=>h) hS1 ?_;(try simp only[s3]);refine tO 11 16 rfl (by kernel_rfl) rfl (fun _ _ _ h=>h) hS1 ?_;(try simp only[s3]);refine tO 12 17 rfl (by kernel_rfl) rfl (fun _ _ _ h=>h) hS1 ?_;(try simp only[s3]);refine tO 13 18 rfl (by kernel_rfl) rfl (fun _ _ _ h=>h) hS1 ?_;(try simp only[s3]);refine tO 14 19 rfl (by kernel_rfl) rfl (fun _ _ _ h=>h) hS1 ?_;(try simp only[s3]);refine tO 15 20 rfl (by kernel_rfl) rfl (fun _ _ _ h=>h) hS1 ?_;(try simp only[s3]);refine tO 16 21 rfl (by kernel_rfl) rfl (fun _ _ _ h=>h) hS1 ?_;(try simp only[s3]);refine tO 17 22 rfl (by kernel_rfl) rfl (fun _ _ _ h=>h) hS1 ?_;(try simp only[s3]);refine tO 18 23 rfl (by kernel_rfl) rfl (fun _ _ _ h=>h) hS1 ?_;(try simp only[s3]);refine aR 19 24 (.bool false) hS1 ?_;(try simp only[s3]);refine aR 20 4 (.bool false) hS1 ?_;(try simp only[s3]);refine aw (by kernel_rfl) ?_ _;go_wp2_with fail;go_ret;exact⟨by simp,hS1⟩
 | true =>
   refine aJ (S:=Below W.heap.size W) (last:=100) (by kernel_rfl) ?_;refine tf 0 5 (.int .i64 k) hS0 (fun V hV=>?_) ?_
   ·(have z:V.cell? ⟨g1,0,none⟩=some (.int .i64 k):=ce (i:=0) (ac hV (lt_of_block G1.out) G1.out) rfl;simp[go_sem,execOp,z])
   (try simp only[s3]);refine aR 1 6 (.pointer (some ⟨b,0,none⟩)) hS0 ?_;(try simp only[s3]);refine aR 2 7 (.pointer (some ⟨b,0,none⟩)) hS0 ?_;(try simp only[s3]);refine aR 3 8 (.pointer (some ⟨b,2,none⟩)) hS0 ?_;(try simp only[s3]);refine aR 4 9 (.pointer (some ⟨b,4,none⟩)) hS0 ?_;(try simp only[s3]);refine tf 5 10 (.slice y.x.aP F.prs.length y.x.cP) hS0 (fun V hV=>?_) ?_
   ·(have z:V.cell? ⟨b,4,none⟩=some (.slice y.x.aP F.prs.length y.x.cP):=ce (i:=4) (ac hV HX.lt HX.box) rfl;simp[go_sem,execOp,z])
   (try simp only[s3]);refine aR 6 11 (.int .i64 ((F.prs.length:Int))) hS0 ?_;(try simp only[s3]);refine tf 7 12 (.int .i64 ((F.prs.length:Int)-1)) hS0 (fun V hV=>?_) ?_
   ·simp[go_sem,execOp,wl]
   (try simp only[s3]);refine ae 8 rfl (by kernel_rfl) (fun K hK=>?_);go_simp;go_at_call 102;refine(H1.out _).mono ?_;rintro e wq ⟨rfl,rfl⟩;have hS1:=hS0;go_wp2_with fail;refine hK.out _ _ (.inr hS1) ?_;clear hK K;(try simp only[Act.put,s3]);refine aR 9 14 (.bool true) hS1 ?_;(try simp only[s3]);refine tf 10 15 (.int .i64 s) hS1 (fun V hV=>?_) ?_
   ·(have z:V.cell? ⟨g2,0,none⟩=some (.int .i64 s):=ce (i:=0) (ac hV (lt_of_block G2.out) G2.out) rfl;simp[go_sem,execOp,z])
   (try simp only[s3]);refine aR 11 16 (.pointer (some ⟨b,0,none⟩)) hS1 ?_;(try simp only[s3]);refine aR 12 17 (.pointer (some ⟨b,0,none⟩)) hS1 ?_;(try simp only[s3]);refine aR 13 18 (.pointer (some ⟨b,2,none⟩)) hS1 ?_;(try simp only[s3]);refine aR 14 19 (.pointer (some ⟨b,2,none⟩)) hS1 ?_;(try simp only[s3]);refine tf 15 20 (.slice y.x.aS F.sts.length y.x.cS) hS1 (fun V hV=>?_) ?_
   ·(have z:V.cell? ⟨b,2,none⟩=some (.slice y.x.aS F.sts.length y.x.cS):=ce (i:=2) (ac hV HX.lt HX.box) rfl;simp[go_sem,execOp,z])
   (try simp only[s3]);refine aR 16 21 (.int .i64 ((F.sts.length:Int))) hS1 ?_;(try simp only[s3]);refine tf 17 22 (.int .i64 ((F.sts.length:Int)-1)) hS1 (fun V hV=>?_) ?_
   ·simp[go_sem,execOp,ws]
   (try simp only[s3]);refine ae 18 rfl (by kernel_rfl) (fun K hK=>?_);go_simp;go_at_call 102;refine(H2.out _).mono ?_;rintro e wq ⟨rfl,rfl⟩;have hS2:=hS1;go_wp2_with fail;refine hK.out _ _ (.inr hS2) ?_;clear hK K;(try simp only[Act.put,s3]);refine aR 19 24 (.bool q) hS2 ?_;(try simp only[s3]);refine aR 20 4 (.bool q) hS2 ?_;(try simp only[s3]);refine aw (by kernel_rfl) ?_ _;go_wp2_with fail;go_ret;exact⟨by simp,hS2⟩
theorem yI {F:Fld} {k s:Int} (h:bq (bm k 0 ((F.prs.length:Int)-1)&&aY F s)=0):(∃n:Nat,k=n∧n<F.prs.length)∧aY F s=true:=by
 unfold bq at h
 cases p:bm k 0 ((F.prs.length:Int)-1)<;>cases q:aY F s<;>simp_all
 have:=dZ.1 p;exact⟨k.toNat,by omega,by omega⟩
theorem yC (w:World) (x:FV) (F:Fld) (ar:Option Addr) (cr:Nat) (l:List Rcd) (k s:Int) (h:FldAt w x F) (hr:cI w ar l) (hn:l.length≤100000) (hk:∀r∈l,(0≤r.call.kind∧r.call.kind≤255)∧r.deed.size≤9223372036854775807) :
 Calls prog 41 #[x.val F,.slice ar l.length cr,.int .i64 k,.int .i64 s] w fun e w'=>e=.returned (.tuple #[.int .i64 (ma F l k s).1,.int .i64 (ma F l k s).2.1,.int .i64 (ma F l k s).2.2])∧Below w.heap.size w w':=by
 obtain⟨w0,hw0⟩:∃W,W=((w.alloc (.cells (x.arr F) 27)).alloc (.cells #[.int .i64 k] 3)).alloc (.cells #[.int .i64 s] 3):=⟨_,rfl⟩;have B0:=aa (show Below w.heap.size w w0 by rw[hw0];exact((aD).alloc (by simp) _).alloc (by simp;omega) _)
 have X0:=aa (show Kb [(w.heap.size+1+1,.cells #[.int .i64 s] 3),(w.heap.size+1,.cells #[.int .i64 k] 3),(w.heap.size,.cells (x.arr F) 27)] w0 by
  rw[hw0];have:=Kb.alloc (o:=.cells #[.int .i64 s] 3) (Kb.alloc (o:=.cells #[.int .i64 k] 3) (Kb.alloc (W:=w) (o:=.cells (x.arr F) 27) (L:=[]) trivial))
  simpa using this)
 have HA:=aa (eT w0 x F ar cr l (h.below B0.out) (hr.below B0.out (Nat.le_refl _)) hn hk 101 #[.pointer (some ⟨w.heap.size+1,0,none⟩),.pointer (some ⟨w.heap.size+1+1,0,none⟩)] (bm k 0 ((F.prs.length:Int)-1)&&aY F s) (enters_of func101 (by kernel_rfl) rfl)
  (fun hg W b o c hw hb=>yx W b (w.heap.size+1) (w.heap.size+1+1) _ F l k s hw hg.fld (ac hb (lt_of_block X0.out.2.1) X0.out.2.1) (ac hb (lt_of_block X0.out.1) X0.out.1)))
 obtain⟨⟨R1,R2,R3⟩,hR⟩:=ag (ma F l k s);rw[hR];unfold ma at hR;have HMZ:=aa (fun(q:aW F l (bq (bm k 0 ((F.prs.length:Int)-1)&&aY F s))=0)=>cx.1 q);obtain⟨M,hM⟩:=ag (aW F l (bq (bm k 0 ((F.prs.length:Int)-1)&&aY F s)));rw[hM] at HA hR HMZ;have kk:=ak X0.out.2.2.1;clear hM h hr hn hk
 unfold FV.val FV.arr at *
 go_enter func41,ntmps41;go_upto_region 1 with fail;rw[←hw0];clear hw0;go_wp2_with fail;refine HA.out.mono ?_;rintro e w1 ⟨hp,hb1⟩;have B1:=bU B0 hb1;have X1:=aa (X0.out.next hb1);clear hb1 HA kk X0;unfold cJ at hp
 by_cases h0:M=0
 rotate_left
 ·have hzb:(M != 0)=true:=by simpa using h0
  rw[if_neg h0] at hp;rw[if_pos h0] at hR;obtain⟨v,rfl⟩:=hp;cases hR;clear h0 HMZ;go_wp2_with fail;refine bodyPost_ret (by simp[results,results41,go_sem]) rfl ⟨rfl,B1.out⟩
 subst h0;rw[if_pos rfl] at hp;rw[if_neg (by simp)] at hR;obtain⟨b,o,c,rfl,hw,hbl⟩:=hp;obtain⟨q1,q2,q3⟩:=HMZ.out rfl;obtain⟨⟨n,hkn,hnl⟩,q5⟩:=yI q2;subst hkn;rw[show((n:Int)).toNat=n from rfl] at hR;have HTH:=aa (vo w1 b _ F l n s hw hnl);have HSU:=aa (fun W (q:WAt W b ⟨x,o,c,ar,cr⟩ F l)=>wT W b ⟨x,o,c,ar,cr⟩ F l n s q hnl q1 q3 q5);obtain⟨tb,htb⟩:=ag (rf (cN F n) s);obtain⟨⟨v1,v2⟩,hv⟩:=ag (mI F l (cN F n) s);rw[htb] at HTH hR;rw[hv] at HSU hR;have HW:=aa hw;have kx:=ak X1.out.1;have ky:=ak X1.out.2.1;clear hw hbl HMZ q1 q2 q3 q5 hnl htb hv;go_wp2_with fail;refine HTH.out.mono ?_;rintro e w2 ⟨rfl,hb2⟩;have B2:=bU B1 hb2;have X2:=aa (X1.out.next hb2);have W2:=aa (HW.out.next hb2);clear hb2 kx ky HTH X1 HW;cases tb
 ·rw[if_pos rfl] at hR
  cases hR;go_wp2_with fail;refine bodyPost_ret (by simp[results,results41,go_sem]) rfl ⟨rfl,B2.out⟩
 rw[if_neg (by simp)] at hR;have kx:=ak X2.out.1;have ky:=ak X2.out.2.1;go_wp2_with fail;refine(HSU.out _ W2.out).mono ?_;rintro e w3 ⟨rfl,hb3⟩;have B3:=bU B2 hb3;clear hb3 kx ky X2
 by_cases q:v2≤v1
 ·rw[if_pos q] at hR
  cases hR;go_wp2_with fail;refine bodyPost_ret (by simp[results,results41,go_sem]) rfl ⟨rfl,B3.out⟩
 ·rw[if_neg q] at hR
  cases hR;go_wp2_with fail;refine bodyPost_ret (by simp[results,results41,go_sem]) rfl ⟨rfl,B3.out⟩
theorem um (w:World) (q:Int) (b:Nat) (a:Option Addr) (n cap:Nat) (hn:n≤9223372036854775807) (hc:w.cell? ⟨b,1,none⟩=some (.slice a n cap)) :
 Calls prog 231 #[.int .i64 q,.pointer (some ⟨b,0,none⟩)] w fun e w'=>e=.returned (.bool (!bm q 0 ((n:Int)-1)))∧w=w':=by
 have hw:IntKind.i64.wrap ((n:Int)-1)=(n:Int)-1:=IntWalk.i64_in _ (by omega);go_enter func231,ntmps231;go_wp2_with (go_at_call 232;refine(jS _ _ _ _).mono ?_;rintro e w' ⟨rfl,rfl⟩);go_ret;exact⟨rfl,rfl⟩
theorem yl (w:World) (N:Int) (a:Option Addr) (cap n:Nat) (a2:Option Addr) (cap2:Nat) (l:List Int) (hn:n≤9223372036854775807) (hl:l.length≤9223372036854775807) (h:IntsAt w a2 l) :
 Calls prog 158 #[.agg #[.int .i64 N,.slice a n cap],.slice a2 l.length cap2] w fun e w'=>e=.returned (.bool (bO n l))∧Below w.heap.size w w':=by
 have H:=aa h;clear h
 have hc:(w.alloc (.cells #[.int .i64 N,.slice a n cap] 61)).cell? ⟨w.heap.size,1,none⟩=some (.slice a n cap):=by simp[go_sem]
 have T:jk prog 231 #[.pointer (some ⟨w.heap.size,0,none⟩)] (w.alloc (.cells #[.int .i64 N,.slice a n cap] 61)) l (fun q=>!bm q 0 ((n:Int)-1)) :=
  fun k hk W hb=>(um W _ w.heap.size a n cap hn ((hb.cell (by simp)).trans hc)).mono fun e W' ⟨he,hw⟩=>⟨he,hw▸Below.refl _ _⟩
 have HT:=aa T;have E:=aa (enters_of func231 (by kernel_rfl) rfl);clear T hc;go_enter func158,ntmps158;go_wp2_with (go_at_call 215;refine(cF _ a2 cap2 l _ _ _ hl (H.out.alloc _) HT.out E.out).mono ?_;rintro e w' ⟨rfl,hb⟩);go_ret;exact⟨rfl,(aD).trans (hb.mono (by simp))⟩
def Ad (r:Int×List Bd×Int) (base:Nat) (e:Ending) (w':World):Prop:=∃v,e=.returned (.tuple #[.agg #[.int .i64 r.1,v],.int .i64 r.2.2])∧cw r.2.1 base v w'
theorem jF (base:Nat) (w:World):cw [] base (.slice none 0 0) w:=World.ownsRow_nil _ _ _ _
theorem gH {W W':World} {base:Nat} {e:TypeId} {size:Nat} {v:Value} {n:Nat} {xs:List Value} (h:W.ownsRow base e size v n xs) (hb:Below W.heap.size W W'):W'.ownsRow base e size v n xs :=
 av h (fun q hq=>hb.block q (o5 h hq))
def gj (N:Int) (bs:List Bd) (l:List Int):Int×List Bd×Int:=if aO N bs=0 then(N,fc bs l,0) else(0,[],aO N bs)
theorem qN (w:World) (N:Int) (a:Option Addr) (cap:Nat) (bs:List Bd) (a2:Option Addr) (cap2:Nat) (l:List Int) (hN:bK N) (hl:bs.length≤9223372036854775807) (hs:jq a bs.length cap) (h:BoundsAt w a bs) (hl2:l.length≤9223372036854775807) (h2:IntsAt w a2 l) :
 Calls prog 96 #[.agg #[.int .i64 N,.slice a bs.length cap],.slice a2 l.length cap2] w fun e w'=>Ad (gj N bs l) w.heap.size e w'∧Below w.heap.size w w':=by
 obtain⟨W0,hW0⟩:∃W0,W0=(w.alloc (.cells #[.int .i64 N,.slice a bs.length cap] 61)).alloc (.cells #[.int .i64 0,.slice none 0 0] 61):=⟨_,rfl⟩
 have b0:Below w.heap.size w W0:=by rw[hW0];exact(aD).alloc (by simp) _
 have x0:W0.heap[w.heap.size]?=some (.cells #[.int .i64 N,.slice a bs.length cap] 61 (0,0)):=by rw[hW0,Below.heap_alloc _ _ _ (by simp),heap_alloc_new]
 have x4:W0.heap[w.heap.size+1]?=some (.cells #[.int .i64 0,.slice none 0 0] 61 (0,0)):=by rw[hW0,af _ _ _ (by simp)]
 have hck:=fO W0 N a cap bs hN hl (h.below b0 (Nat.le_refl _));have HW0:=aa hW0;have B0:=aa b0;have X0:=aa x0;have X4:=aa x4;have H:=aa h;have H2:=aa h2;clear hW0 b0 x0 x4 h h2
 by_cases hc:aO N bs=0
 ·obtain⟨n0,n1,n2,_⟩:=cR hc
  have hwo:=fun W hb hb2=>tM W N a cap bs a2 cap2 l (by omega) hs hb hl2 hb2
  have hd:gj N bs l=(N,fc bs l,0):=by unfold gj;rw[if_pos hc]
  rw[hc] at hck;obtain⟨L,hL⟩:=ag (fc bs l);rw[hL] at hwo hd;have HCK:=aa hck;have HWO:=aa hwo;have HD:=aa hd;clear hck hwo hd hc hN hL n0 n1 n2;go_enter func96,ntmps96;go_upto_region 1 with fail;rw[←HW0.out];have e0:W0.cell? ⟨w.heap.size,0,none⟩=some (.int .i64 N):=bu X0.out rfl;have e1:W0.cell? ⟨w.heap.size,1,none⟩=some (.slice a bs.length cap):=bu X0.out rfl;go_wp2_with fail;refine HCK.out.mono ?_;rintro e w1 ⟨rfl,hb1⟩;have y0:=ac hb1 (lt_of_block X0.out) X0.out;have y4:=ac hb1 (lt_of_block X4.out) X4.out;have f0:w1.cell? ⟨w.heap.size,0,none⟩=some (.int .i64 N):=bu y0 rfl;have f1:w1.cell? ⟨w.heap.size,1,none⟩=some (.slice a bs.length cap):=bu y0 rfl;have B1:=bU B0 hb1;have Y4:=aa y4;clear e0 e1 y0 y4 hb1;go_wp2_with fail;refine(HWO.out _ (H.out.below B1.out (Nat.le_refl _)) (H2.out.below B1.out (Nat.le_refl _))).mono ?_;rintro e w2 ⟨v,rfl,ho,hb2⟩;obtain⟨o,c,rfl,_⟩:=d8 ho;have y2:=ac hb2 (lt_of_block Y4.out) Y4.out;have g0:w2.cell? ⟨w.heap.size+1,0,none⟩=some (.int .i64 0):=bu y2 rfl;have g1:w2.cell? ⟨w.heap.size+1,1,none⟩=some (.slice none 0 0):=bu y2 rfl
  have g2:∀i,w2.frozen? ⟨w.heap.size+1,i,none⟩=false:=fun i=>frozen_of_row _ _ _ _ _ y2
  have l4:=lt_of_block Y4.out;have B2:=bU B1 hb2;have HO:=aa ho;have HS1:=aa B1.out.size;clear f0 f1 hb2 ho y2;go_wp2_with fail;refine bodyPost_ret (v:=.tuple #[.agg #[.int .i64 N,.slice o L.length c],.int .i64 0]) (by simp[results,results96,go_sem,g0,g1]) rfl ⟨?_,?_⟩
  ·rw[HD.out]
   exact⟨_,rfl,bF (ownsRow_setCell_below (ownsRow_setCell_below HO.out (by exact l4) _) (by exact l4) _) HS1.out⟩
  ·exact(B2.out.setCell (by simp) _).setCell (by simp) _
 ·have hd:gj N bs l=(0,[],aO N bs):=by unfold gj;rw[if_neg hc]
  obtain⟨cc,hcc⟩:=ag (aO N bs);rw[hcc] at hd hc hck
  have hcb:(cc != 0)=true:=by simpa using hc
  have HCK:=aa hck;have HD:=aa hd;clear hck hd hc hcc hN;go_enter func96,ntmps96;go_upto_region 1 with fail;rw[←HW0.out];have e0:W0.cell? ⟨w.heap.size,0,none⟩=some (.int .i64 N):=bu X0.out rfl;have e1:W0.cell? ⟨w.heap.size,1,none⟩=some (.slice a bs.length cap):=bu X0.out rfl;go_wp2_with fail;refine HCK.out.mono ?_;rintro e w1 ⟨rfl,hb1⟩;have y2:=ac hb1 (lt_of_block X4.out) X4.out;have g0:w1.cell? ⟨w.heap.size+1,0,none⟩=some (.int .i64 0):=bu y2 rfl;have g1:w1.cell? ⟨w.heap.size+1,1,none⟩=some (.slice none 0 0):=bu y2 rfl
  have g2:∀i,w1.frozen? ⟨w.heap.size+1,i,none⟩=false:=fun i=>frozen_of_row _ _ _ _ _ y2
  have B1:=bU B0 hb1;clear e0 e1 hb1 y2;go_wp2_with fail;refine bodyPost_ret (v:=.tuple #[.agg #[.int .i64 0,.slice none 0 0],.int .i64 cc]) (by simp[results,results96,go_sem,g0,g1]) rfl ⟨?_,?_⟩
  ·rw[HD.out]
   exact⟨_,rfl,jF _ _⟩
  ·exact(B1.out.setCell (by simp) _).setCell (by simp) _
def dX (N:Int) (bs:List Bd) (l:List Int):List Int×Int:=if aO N bs≠0 then([],aO N bs) else if bO bs.length l=true then(bY (l.map (dg bs)),0) else([],1)
theorem A6 {bs:List Bd} {q:Nat} (h:q<bs.length):dg bs (q:Int)=bs[q]:=by
 unfold dg;rw[Int.toNat_natCast,List.getD_eq_getElem?_getD,List.getElem?_eq_getElem h];rfl
theorem ny {α β:Type} (f:α→β) {l:List α} {k:Nat} (hk:k<l.length):(l.take (k+1)).map f=(l.take k).map f++[f l[k]]:=by
 rw[List.take_succ_eq_append_getElem hk,List.map_append];rfl
theorem kI (w:World) (N:Int) (a:Option Addr) (cap:Nat) (bs:List Bd) (a2:Option Addr) (cap2:Nat) (l:List Int) (hN:bK N) (hl:bs.length≤9223372036854775807) (h:BoundsAt w a bs) (hl2:l.length≤4000) (h2:IntsAt w a2 l) :
 Calls prog 87 #[.agg #[.int .i64 N,.slice a bs.length cap],.slice a2 l.length cap2] w fun e w'=>iN (dX N bs l).1 (dX N bs l).2 w.heap.size e w'∧Below w.heap.size w w':=by
 have b0:Below w.heap.size w (w.alloc (.cells #[.int .i64 N,.slice a bs.length cap] 61)):=aD;have hck:=fO (w.alloc (.cells #[.int .i64 N,.slice a bs.length cap] 61)) N a cap bs hN hl (h.below b0 (Nat.le_refl _))
 have hix:=fun W hb=>yl W N a cap bs.length a2 cap2 l hl (by omega) hb
 have B0:=aa b0;have H:=aa h;have H2:=aa h2;clear b0 h h2
 by_cases hc:aO N bs=0
 ·obtain⟨n0,n1,n2,_⟩:=cR hc
  rw[hc] at hck
  have hE0:dX N bs l=if bO bs.length l=true then(bY (l.map (dg bs)),0) else([],1):=by unfold dX;rw[if_neg (by simp[hc])]
  have HCK:=aa hck;clear hck hc hN
  cases hx:bO bs.length l with
  | false =>
    have hE:dX N bs l=([],1):=by rw[hE0,hx];simp
    clear hE0;rw[hx] at hix;have HE:=aa hE;have HIX:=aa hix;clear hE hix hx;go_enter func87,ntmps87;go_wp2_with fail;refine HCK.out.mono ?_;rintro e w1 ⟨rfl,hb1⟩;have x1:=ac hb1 (by simp) (heap_alloc_new w (.cells #[.int .i64 N,.slice a bs.length cap] 61));have e0:w1.cell? ⟨w.heap.size,0,none⟩=some (.int .i64 N):=bu x1 rfl;have e1:w1.cell? ⟨w.heap.size,1,none⟩=some (.slice a bs.length cap):=bu x1 rfl;have B1:=bU B0 hb1;clear x1 hb1;go_wp2_with fail;refine(HIX.out _ (H2.out.below B1.out (Nat.le_refl _))).mono ?_;rintro e w2 ⟨rfl,hb2⟩;clear e0 e1;go_wp2_with fail;refine bodyPost_ret (v:=.tuple #[.slice none 0 0,.int .i64 1]) (by simp[results,results87,go_sem]) rfl ⟨?_,bB B1.out hb2⟩;rw[HE.out];exact⟨_,rfl,World.ownsRow_nil _ _ _ _⟩
  | true =>
    have hall:=g9.1 hx
    have hE:dX N bs l=(bY (l.map (dg bs)),0):=by rw[hE0,hx];simp
    clear hE0;rw[hx] at hix;have HE:=aa hE;have HIX:=aa hix;have HALL:=aa hall;clear hE hix hx hall;go_enter func87,ntmps87;go_wp2_with fail;refine HCK.out.mono ?_;rintro e w1 ⟨rfl,hb1⟩;have x1:=ac hb1 (by simp) (heap_alloc_new w (.cells #[.int .i64 N,.slice a bs.length cap] 61));have e0:w1.cell? ⟨w.heap.size,0,none⟩=some (.int .i64 N):=bu x1 rfl;have e1:w1.cell? ⟨w.heap.size,1,none⟩=some (.slice a bs.length cap):=bu x1 rfl;have B1:=bU B0 hb1;have X1:=aa x1;clear x1 hb1;go_wp2_with fail;refine(HIX.out _ (H2.out.below B1.out (Nat.le_refl _))).mono ?_;rintro e w2 ⟨rfl,hb2⟩;have X2:=aa (ac hb2 (lt_of_block X1.out) X1.out);have B2:=bU B1 hb2;clear e0 e1 hb2;go_wp2_with fail
    go_loopw [7,21] (fun v i wr=>∃k:Nat,k≤l.length∧i=.int .i64 k∧Hid (wr.heap[w.heap.size]?=some (.cells #[.int .i64 N,.slice a bs.length cap] 61 (0,0)))∧Hid (cw ((l.take k).map (dg bs)) (w.heap.size+1) v wr)∧Hid (Below w.heap.size w wr)) (fun _ i _=>l.length-(intOf i).toNat)
    case atStart=>exact⟨0,by omega,rfl,X2,aa (jF _ _),B2⟩
    case round =>
     obtain⟨k,hk,rfl,hx,hown,hb⟩:=hrel;have l0:w.heap.size<wr.heap.size:=lt_of_block hx.out
     by_cases hlt:k<l.length
     ·have e1:wr.cell? ⟨w.heap.size,1,none⟩=some (.slice a bs.length cap):=bu hx.out rfl
      obtain⟨b2,off2,rfl,hbl2,c9⟩:=(H2.out.below hb.out (Nat.le_refl _)).at hlt;have hq:=HALL.out l[k] (List.getElem_mem hlt);obtain⟨q,hqe⟩:∃q:Nat,l[k]=(q:Int):=⟨l[k].toNat,by omega⟩;have htk:=ny (dg bs) hlt;rw[hqe] at hq c9 htk
      have hql:q<bs.length:=by omega
      have qI:(q:Int)<(bs.length:Int):=hq.2;rw[A6 hql] at htk;obtain⟨b,off,rfl,hbl,hcs⟩:=(H.out.below hb.out (Nat.le_refl _)).at hql;obtain⟨c0,c1,c2,c3⟩:=hcs;obtain⟨x,hxx⟩:=ag (bs[q]);rw[hxx] at c0 c1 c2 c3 htk;obtain⟨xs,xd,xm,xr⟩:=x;simp only at c0 c1 c2 c3
      have hlen:((l.take k).map (dg bs)).length≤4000:=by simp;omega
      have ba:Below wr.heap.size wr (wr.alloc (.cells #[.int .i64 xs,.int .i64 xd,.int .i64 xm,.int .i64 xr] 65)):=aD
      obtain⟨v2,W2,hr2,ho2,hb2⟩:=pd (wr.alloc (.cells #[.int .i64 xs,.int .i64 xd,.int .i64 xm,.int .i64 xr] 65)) (w.heap.size+1) u7 ((l.take k).map (dg bs)) (World.ownsRow.alloc hown.out _) (some ⟨wr.heap.size,0,none⟩) 1 [⟨xs,xd,xm,xr⟩]
       (uR (b:=⟨xs,xd,xm,xr⟩) (heap_alloc_new wr _)) (by omega) (by simp) (by simp;omega) 59
      have bW:Below (w.heap.size+1) wr W2:=(ba.mono (by omega)).trans hb2;have HR2:=aa hr2;have HO2:=aa ho2;have HX2:=aa ((bW.block _ (by omega)).trans hx.out);have HBW:=aa (hb.out.trans (bW.mono (by omega)));have HTK:=aa htk;clear hr2 ho2 hb2 ba bW htk hxx hqe hq hlen;go_wp2_with (at_builtin;refine aN rfl (s:=.tmp 25) (x:=.tmp 31) (t:=59) rfl rfl rfl HR2.out ?_);go_roundw
      case rel=>exact⟨k+1,by omega,by go_num,HX2,aa (by rw[HTK.out];exact HO2.out),HBW⟩
      case measure=>simp[intOf];omega
     ·have hall:l.take k=l:=List.take_of_length_le (by omega)
      rw[hall] at hown;obtain⟨o,c,rfl,hba,_⟩:=d8 hown.out;have hrec:=sV wr o c (l.map (dg bs)) (by simp;omega) hba;rw[List.length_map] at hrec;have HREC:=aa hrec;clear hrec hba hown hall;go_wp2_with fail;refine HREC.out.mono ?_;rintro e w3 ⟨v,rfl,hov,hb3⟩;obtain⟨o3,c3,rfl,_⟩:=fU hov;have HOV:=aa (bF hov hb.out.size);have HB3:=bU hb hb3;clear hov hb3;go_wp2_with fail;refine bodyPost_ret (v:=.tuple #[.slice o3 (bY (l.map (dg bs))).length c3,.int .i64 0]) (by simp[results,results87,go_sem]) rfl ⟨?_,HB3.out⟩;rw[HE.out];exact⟨_,rfl,HOV.out⟩
 ·have hE:dX N bs l=([],aO N bs):=by unfold dX;rw[if_pos hc]
  obtain⟨cc,hcc⟩:=ag (aO N bs);rw[hcc] at hE hc hck
  have hcb:(cc != 0)=true:=by simpa using hc
  have HCK:=aa hck;have HE:=aa hE;clear hck hE hc hcc hN hix;go_enter func87,ntmps87;go_wp2_with fail;refine HCK.out.mono ?_;rintro e w1 ⟨rfl,hb1⟩;go_wp2_with fail;refine bodyPost_ret (v:=.tuple #[.slice none 0 0,.int .i64 cc]) (by simp[results,results87,go_sem]) rfl ⟨?_,bB B0.out hb1⟩;rw[HE.out];exact⟨_,rfl,World.ownsRow_nil _ _ _ _⟩
def eP (F:Fld) (l:List Rcd):List Int×Bool×Int :=
 if(cm F l).2≠0 then([],false,(cm F l).2) else if bi F l=true then([],false,0)
 else(bY ((bS (bj F) (aj F l)).1.map (dg (aj F l))),true,0)
theorem qX {F:Fld} {l:List Rcd} (h:cX F l) (ha:bi F l=true):bS (bj F) (aj F l)=([],false,0):=by
 unfold bi mB at ha;unfold bS;rw[if_neg (by rw[ez h];simp),if_pos ha]
theorem jG {F:Fld} {l:List Rcd} (h:cX F l) {c:List Int} (hc:bO (aj F l).length c=true):dX (bj F) (aj F l) c=(bY (c.map (dg (aj F l))),0):=by
 unfold dX;rw[if_neg (by rw[ez h];simp),if_pos hc]
theorem qx {F:Fld} (h:F.check=0):bK (bj F):=by
 have:=iC h
 unfold bK;omega
theorem pk (w:World) (x:FV) (F:Fld) (ar:Option Addr) (cr:Nat) (l:List Rcd) (h:FldAt w x F) (hr:cI w ar l) (hn:l.length≤100000) (hk:∀r∈l,(0≤r.call.kind∧r.call.kind≤255)∧r.deed.size≤9223372036854775807) :
 Calls prog 29 #[x.val F,.slice ar l.length cr] w fun e w'=>fj (eP F l).1 (eP F l).2.1 (eP F l).2.2 w.heap.size e w'∧Below w.heap.size w w':=by
 obtain⟨w0,hw0⟩:∃W,W=w.alloc (.cells (x.arr F) 27):=⟨_,rfl⟩;have B0:=aa (show Below w.heap.size w w0 by rw[hw0];exact aD);have X0:=aa (show w0.heap[w.heap.size]?=some (.cells (x.arr F) 27 (0,0)) by rw[hw0];exact heap_alloc_new _ _);have HC:=aa (rW w0 x F ar cr l (h.below B0.out) (hr.below B0.out (Nat.le_refl _)) hn hk);have HG:=aa (fun(q:(cm F l).2=0)=>(fM F l).1 q);obtain⟨⟨CL,CB,CE⟩,hCF⟩:=ag (eP F l);rw[hCF];unfold eP at hCF;have HCF:=aa hCF;clear hCF;obtain⟨r2,hR⟩:=ag ((cm F l).2);rw[hR] at HC HG HCF;clear hR h hr hn hk;have kk:=ak X0.out
 unfold FV.val FV.arr at *
 go_enter func29,ntmps29;go_upto_region 1 with fail;rw[←hw0];clear hw0;go_wp2_with fail;refine HC.out.mono ?_;rintro e w1 ⟨hp,hb1⟩;have B1:=bU B0 hb1;clear hb1 HC X0 kk;unfold iY at hp
 by_cases h0:r2=0
 rotate_left
 ·have hzb:(r2 != 0)=true:=by simpa using h0
  rw[if_neg h0] at hp;subst hp;have hq:=HCF.out;rw[if_pos h0] at hq;cases hq;clear h0 HCF HG;go_wp2_with fail;refine bodyPost_ret (v:=.tuple #[.slice none 0 0,.bool false,.int .i64 CE]) (by simp[results,results29,go_sem]) rfl ⟨⟨_,rfl,World.ownsRow_nil _ _ _ _⟩,B1.out⟩
 subst h0;rw[if_pos rfl] at hp;obtain⟨b,o,c,rfl,hw,hbl,-⟩:=hp;have hG:=HG.out rfl;have hq:=HCF.out;rw[if_neg (by simp)] at hq;have HN:=aa (qx hG.fld);have HCI:=aa (uC w1 (bj F) o c (aj F l) HN.out (Nat.le_trans hw.cap.1 hw.cap.2) hw.bnd);have HRE:=aa (fun W cl a2 c2 (hb:Below w1.heap.size w1 W) (q:List.length cl≤4000) (hc:IntsAt W a2 cl)=>kI W (bj F) o c (aj F l) a2 c2 cl HN.out (Nat.le_trans hw.cap.1 hw.cap.2) (hw.bnd.below hb (Nat.le_refl _)) q hc);have HKX:=aa (fun W (hb:Below w1.heap.size w1 W)=>ak (hw.next hb).box);have HX:=aa hw.box;have pl:=iC hG.fld;have kx:=ak HX.out;unfold WV.arr at kx;cases hag:bi F l
 rotate_left
 ·rw[hag,if_pos rfl] at hq
  cases hq;have hcv:=qX hG hag;rw[hcv] at HCI;obtain⟨P,hP⟩:∃P:Int,((bj F:Nat):Int)=P:=⟨_,rfl⟩;rw[hP] at kx HCI;obtain⟨LN,hLN⟩:=ag ((aj F l).length);rw[hLN] at kx HCI;clear hP hLN hcv hag hG HG HCF HRE HKX hw hbl HN pl;go_wp2_with fail;refine HCI.out.mono ?_;rintro e w2 ⟨⟨v,rfl,-⟩,hb2⟩;have B2:=bU B1 hb2;clear hb2 kx;go_wp2_with fail;refine bodyPost_ret (v:=.tuple #[.slice none 0 0,.bool false,.int .i64 0]) (by simp[results,results29,go_sem]) rfl ⟨⟨_,rfl,World.ownsRow_nil _ _ _ _⟩,B2.out⟩
 rw[hag,if_neg (by simp)] at hq;obtain⟨cl,hcv,hix,hlen,-⟩:=mV hG hag;rw[hcv] at HCI hq;have hre:=jG hG hix;have HLE:=aa (show cl.length≤4000 by omega)
 have HRE2:=aa (fun W a2 c2 (hb:Below w1.heap.size w1 W) (hc:IntsAt W a2 cl)=>by
  have t:=HRE.out W cl a2 c2 hb HLE.out hc;rw[hre] at t
  exact t)
 obtain⟨RS,hRS⟩:=ag (bY (cl.map (dg (aj F l))));rw[show bY (List.map (dg (aj F l)) (cl,true,(0:Int)).1)=RS from hRS] at hq;rw[hRS] at HRE2;cases hq;obtain⟨P,hP⟩:∃P:Int,((bj F:Nat):Int)=P:=⟨_,rfl⟩;rw[hP] at kx HCI HRE2;have HPE:=aa hP;obtain⟨LN,hLN⟩:=ag ((aj F l).length);rw[hLN] at kx HCI HRE2;have HLN:=aa hLN;clear hP hLN hcv hag hG HG HCF HRE hbl HN pl hre hix hlen hRS hw;go_wp2_with fail;refine HCI.out.mono ?_;rintro e w2 ⟨⟨v,rfl,ho⟩,hb2⟩;obtain⟨a2,c2,rfl,hin⟩:=mK ho;have B2:=bU B1 hb2;have HR2:=aa (HRE2.out w2 a2 c2 hb2 hin);have ky:=HKX.out _ hb2;unfold WV.arr at ky;rw[HPE.out,HLN.out] at ky;obtain⟨M,hM⟩:=ag cl.length;have hM2:List.length (cl,true,(0:Int)).1=M:=hM;rw[hM] at HR2;rw[hM2];clear hb2 kx ho hin HRE2 HKX HCI hM hM2 HLE;go_wp2_with fail;refine HR2.out.mono ?_;rintro e w3 ⟨⟨v,rfl,ho⟩,hb3⟩;have B3:=bU B2 hb3;have HO:=aa (bF ho B2.out.size);clear hb3 ky ho HR2;go_wp2_with fail;refine bodyPost_ret (v:=.tuple #[v,.bool true,.int .i64 0]) (by simp[results,results29,go_sem]) rfl ⟨⟨_,rfl,HO.out⟩,B3.out⟩
theorem rE (W:World) (v:Value):Calls prog 95 #[v] W fun e w'=>e=.returned (.bool true)∧Below W.heap.size W w':=by
 go_enter func95,ntmps95;go_wp2_with fail;go_ret;exact⟨rfl,Below.refl _ _⟩
end Go.Proofs.YtkhemfnlflbniaaGreatDoor
