/- Merged text 14 of the base: Lm15, E14, E15, E16, E17, E18, E24, E21, E30, E31, E32. No conditions beyond those stated. -/
import Derived.Test.YtkhemfnlflbniaaGreatDoorB12
import Derived.Test.YtkhemfnlflbniaaGreatDoorB13
import Derived.Test.YtkhemfnlflbniaaGreatDoorB04
import Derived.Test.YtkhemfnlflbniaaGreatDoorB10
import Derived.Test.YtkhemfnlflbniaaGreatDoorB06
set_option maxRecDepth 100000
set_option maxHeartbeats 16000000
namespace Go.Proofs.YtkhemfnlflbniaaGreatDoor
theorem r7 {lo hi a b:Int} (hab:a<b) (h:lo≤hi):(if nK lo hi a b=(0,0,b-a) then 1 else if nK lo hi a b=(b-a,0,0) then 2 else 0:Int)=rq lo hi a b:=by
 unfold rq
 by_cases k:hi≤a
 ·rw[if_pos ((pI hab h).2 k),if_pos k]
 ·rw[if_neg (fun q=>k ((pI hab h).1 q)),if_neg k]
  by_cases m:b≤lo
  ·rw[if_pos ((pZ hab h).2 m),if_pos m]
  ·rw[if_neg (fun q=>m ((pZ hab h).1 q)),if_neg m]
theorem xa {F:Fld} {l:List Rcd} {id:Int}:fA F l id=true↔∀a,a<bj F→((List.range (bj F)).map fun b=>aF (bj F) (aj F (bE l id)) a b)=(List.range (bj F)).map fun b=>aF (bj F) (aj F l) a b:=by
 rw[yP]
 constructor
 ·intro h a ha
  exact List.map_congr_left fun b hb=>h a b ha (List.mem_range.1 hb)
 ·intro h a b ha hb
  have:=congrArg (fun z:List Int=>z.getD b 0) (h a ha);simpa [List.getD_eq_getElem?_getD,hb] using this
end Go.Proofs.YtkhemfnlflbniaaGreatDoor
namespace Go.Proofs.YtkhemfnlflbniaaGreatDoor
open Go Go.RowKit Go.Shelf Tryz
theorem qL (w:World) (i s a c:Int) :
 Calls prog 127 #[.agg #[.int .i64 i,.int .i64 s,.int .i64 a,.int .i64 c]] w fun e w'=>e=.returned (.agg #[.int .i64 i,.int .i64 s])∧Below w.heap.size w w':=by
 obtain⟨w0,hw0⟩:∃W,W=(w.alloc (.cells #[.int .i64 i,.int .i64 s,.int .i64 a,.int .i64 c] 40)).alloc (.cells #[.int .i64 0,.int .i64 0] 30):=⟨_,rfl⟩;have B0:=aa (show Below w.heap.size w w0 by rw[hw0];exact(aD).alloc (by simp) _)
 have X0:=aa (show Kb [(w.heap.size+1,.cells #[.int .i64 0,.int .i64 0] 30),(w.heap.size,.cells #[.int .i64 i,.int .i64 s,.int .i64 a,.int .i64 c] 40)] w0 by
  rw[hw0];have:=Kb.alloc (o:=.cells #[.int .i64 0,.int .i64 0] 30) (Kb.alloc (W:=w) (o:=.cells #[.int .i64 i,.int .i64 s,.int .i64 a,.int .i64 c] 40) (L:=[]) trivial)
  simpa using this)
 have kk:=ak X0.out.2.1;go_enter func127,ntmps127;go_upto_region 1 with fail;rw[←hw0];clear hw0;go_wp2_with (refine wpList_store_row rfl 30 _ _ rfl (w.heap.size+1) #[.int .i64 i,.int .i64 s] rfl rfl 30 _ X0.out.1 (by kernel_rfl) rfl (by simp[Value.oneCell']) ?_);refine bodyPost_ret (v:=.agg #[.int .i64 i,.int .i64 s]) (cv results127 _ _ (w.heap.size+1) 30 #[.int .i64 i,.int .i64 s] (0,0) _ rfl (setRow_heap _ _ _ _ _ _ X0.out.1) underlying30 rfl (by kernel_rfl)) rfl ⟨rfl,below_setRow B0.out (Nat.le_succ w.heap.size) _⟩
theorem tA (w:World) (g:Nat) (v i s a c:Int) (h:w.heap[g]?=some (.cells #[.int .i64 i,.int .i64 s,.int .i64 a,.int .i64 c] 40 (0,0))) :
 Calls prog 199 #[.int .i64 v,.pointer (some ⟨g,0,none⟩)] w fun e w'=>e=.returned (.int .i64 (bH v a c))∧w=w':=by
 have kk:=ak h;clear h;unfold bH;go_enter func199,ntmps199;go_wp2_with fail;go_ret;exact⟨by simp,rfl⟩
theorem se (y:Int) {a c:Int} (h:a≤c):a≤bH y a c∧bH y a c≤c:=by unfold bH;omega
theorem Au (w:World) (i s a c:Int) (g n cp:Nat) (zs:List Int) (hn:0<n) (hz:n=zs.length) (hbig:n≤1000) (hg:g<w.heap.size) (hc:∀j,j<zs.length→w.cell? ⟨g,j,none⟩=some (.int .i64 (zs.getD j 0))) (h0:0≤a) (h1:a≤c) (h2:c≤100000) :
 Calls prog 126 #[.agg #[.int .i64 i,.int .i64 s,.int .i64 a,.int .i64 c],.slice (some ⟨g,0,none⟩) n cp] w fun e w' =>
  e=.returned (.agg #[.int .i64 (bH (Lib.minOf zs) a c-a),.int .i64 (bH (Lib.maxOf zs) a c-bH (Lib.minOf zs) a c),.int .i64 (c-bH (Lib.maxOf zs) a c)])∧Below w.heap.size w w':=by
 obtain⟨w0,hw0⟩:∃W,W=(w.alloc (.cells #[.int .i64 i,.int .i64 s,.int .i64 a,.int .i64 c] 40)).alloc (.cells #[.int .i64 0,.int .i64 0,.int .i64 0] 127):=⟨_,rfl⟩;have B0:=aa (show Below w.heap.size w w0 by rw[hw0];exact(aD).alloc (by simp) _)
 have X0:=aa (show Kb [(w.heap.size+1,.cells #[.int .i64 0,.int .i64 0,.int .i64 0] 127),(w.heap.size,.cells #[.int .i64 i,.int .i64 s,.int .i64 a,.int .i64 c] 40)] w0 by
  rw[hw0];have:=Kb.alloc (o:=.cells #[.int .i64 0,.int .i64 0,.int .i64 0] 127) (Kb.alloc (W:=w) (o:=.cells #[.int .i64 i,.int .i64 s,.int .i64 a,.int .i64 c] 40) (L:=[]) trivial)
  simpa using this)
 have hc0:∀j,j<zs.length→w0.cell? ⟨g,0+j,none⟩=some (.int .i64 (zs.getD j 0)):=fun j hj=>by rw[Nat.zero_add,B0.out.cell (by exact hg)];exact hc j hj
 have HMI:=aa (Tryz.slices_Min_int g 0 n cp zs w0 hn (by omega) (by omega) hc0);have HMA:=aa (Tryz.slices_Max_int g 0 n cp zs w0 hn (by omega) (by omega) hc0);rw[List.take_of_length_le (by omega)] at HMI HMA;obtain⟨m,hm⟩:=ag (Lib.minOf zs);obtain⟨M,hM⟩:=ag (Lib.maxOf zs);rw[hm] at HMI ⊢;rw[hM] at HMA ⊢;have HC1:=aa (tA w0 w.heap.size m i s a c X0.out.2.1);have HC2:=aa (tA w0 w.heap.size M i s a c X0.out.2.1);have k1:=se m h1;have k2:=se M h1;obtain⟨u,hu⟩:=ag (bH m a c);obtain⟨v,hv⟩:=ag (bH M a c);rw[hu] at HC1 k1 ⊢;rw[hv] at HC2 k2 ⊢;have e1:IntKind.i64.wrap (u-a)=u-a:=IntWalk.i64_in _ (by omega);have e2:IntKind.i64.wrap (v-u)=v-u:=IntWalk.i64_in _ (by omega);have e3:IntKind.i64.wrap (c-v)=c-v:=IntWalk.i64_in _ (by omega);have kk:=ak X0.out.2.1;clear hm hM hu hv hc hc0 k1 k2 hn hz hbig hg h0 h1 h2;go_enter func126,ntmps126;go_upto_region 1 with fail;rw[←hw0];clear hw0;go_wp2_with (first|(go_at_call 200;refine HMI.out.mono ?_;rintro e w1 ⟨rfl,rfl⟩)|(go_at_call 201;refine HMA.out.mono ?_;rintro e w1 ⟨rfl,rfl⟩)|(go_at_call 199;(first|with_reducible refine HC1.out.mono ?_|with_reducible refine HC2.out.mono ?_);rintro e w1 ⟨rfl,rfl⟩)|(refine wpList_store_row rfl 127 _ _ rfl (w.heap.size+1) #[.int .i64 (u-a),.int .i64 (v-u),.int .i64 (c-v)] rfl rfl 127 _ X0.out.1 (by kernel_rfl) rfl (by simp[Value.oneCell']) ?_));refine bodyPost_ret (v:=.agg #[.int .i64 (u-a),.int .i64 (v-u),.int .i64 (c-v)]) (cv results126 _ _ (w.heap.size+1) 127 #[.int .i64 (u-a),.int .i64 (v-u),.int .i64 (c-v)] (0,0) _ rfl (setRow_heap _ _ _ _ _ _ X0.out.1) underlying127 rfl (by kernel_rfl)) rfl ⟨rfl,below_setRow B0.out (Nat.le_succ w.heap.size) _⟩
theorem pc (W:World) (b g:Nat) (y:WV) (F:Fld) (l:List Rcd) (i s a c:Int) (h:WAt W b y F l) (hF:F.check=0) (hg:W.heap[g]?=some (.cells #[.int .i64 i,.int .i64 s,.int .i64 a,.int .i64 c] 40 (0,0))) :
 Calls prog 160 #[.pointer (some ⟨b,0,none⟩),.pointer (some ⟨g,0,none⟩)] W fun e w'=>e=.returned (.bool (cZ F i s a c))∧Below W.heap.size W w':=by
 have HC:=aa (uq W b y F l i s a c h hF);have kk:=ak hg;clear h hF hg;go_enter func160,ntmps160;go_wp2_with fail;refine HC.out.mono ?_;rintro e w1 ⟨rfl,hb1⟩;go_wp2_with fail;go_ret;exact⟨rfl,hb1⟩
theorem pJ {F:Fld} {i s a c:Int} (h:bq (cZ F i s a c)=0):bZ F i=true∧aY F s=true∧0≤a∧a<c∧c≤100000:=by
 unfold bq cZ bD at h
 cases p:bZ F i<;>cases q:aY F s<;>simp_all
theorem rX (w:World) (g:Nat) (cs:Array Value) {p:Addr} (h:p.block≠g):(w.setRow g cs).cell? p=w.cell? p:=by
 unfold World.cell?;rw[setRow_other _ _ _ _ h]
theorem eZ {w:World} {o:Option Addr} {bs:List Bd} (h:BoundsAt w o bs) {g:Nat} (hq:∀q,o=some q→q.block≠g) (cs:Array Value):BoundsAt (w.setRow g cs) o bs:=by
 rcases h with h|⟨b,off,e,hl,hc⟩
 ·exact .inl h
 ·have hb:b≠g:=hq ⟨b,off,none⟩ e
  refine .inr ⟨b,off,e,by simpa [World.setRow] using hl,fun i hi=>?_⟩;have:=hc i hi
  unfold Bd.cellsAt at *
  simpa only[rX w g cs (p:=⟨b,_,none⟩) hb] using this
def fk (w:World) (x:FV) (F:Fld) (ar:Option Addr) (cr:Nat) (l:List Rcd) (i s a c:Int) (err:Int) (e:Ending) (w':World):Prop :=
 if err=0 then ∃b o c9,e=.returned (.tuple #[.pointer (some ⟨b,0,none⟩),.agg #[.int .i64 (nK (gT F l (eX F i s)) (eF F l (eX F i s)) a c).1,.int .i64 (nK (gT F l (eX F i s)) (eF F l (eX F i s)) a c).2.1,.int .i64 (nK (gT F l (eX F i s)) (eF F l (eX F i s)) a c).2.2],.int .i64 0])∧WAt w' b ⟨x,o,c9,ar,cr⟩ F l∧w.heap.size≤b
 else e=.returned (.tuple #[.pointer none,.agg #[.int .i64 0,.int .i64 0,.int .i64 0],.int .i64 err])
theorem mP {P:Program} {fn:Func} {p u v:Tmp} {ty:TypeId} (h:fn.results=#[.tmp u,.cell p ty,.tmp v]) (tmps:Array Value) (w:World) (g:Nat) (t:TypeId) (cs:Array Value) (fr:Nat×Nat) (d:TypeDesc)
 (hp:tmps.getD p undef=.pointer (some ⟨g,0,none⟩)) (hg:w.heap[g]?=some (.cells cs t fr))
 (hu:P.underlying ty=some d) (hd:(match d with|.struct _|.array _ _=>true|_=>false)=true) (hi:(P.info? ty).map (·.size)=some cs.size) :
 (results fn tmps).run P w=.ok (.tuple #[tmps.getD u undef,.agg cs,tmps.getD v undef]) w:=by
 have hp':tmps[p]?.getD undef=.pointer (some ⟨g,0,none⟩):=by simpa using hp
 simp[results,h,hp',asAddr,run_loadVar_row w g t ty cs fr d hg hu hd hi]
theorem kK (w:World) (x:FV) (F:Fld) (ar:Option Addr) (cr:Nat) (l:List Rcd) (i s a c:Int) (h:FldAt w x F) (hr:cI w ar l) (hn:l.length≤100000) (hk:∀r∈l,(0≤r.call.kind∧r.call.kind≤255)∧r.deed.size≤9223372036854775807) :
 Calls prog 88 #[x.val F,.slice ar l.length cr,.agg #[.int .i64 i,.int .i64 s,.int .i64 a,.int .i64 c]] w fun e w'=>fk w x F ar cr l i s a c (aW F l (bq (cZ F i s a c))) e w'∧Below w.heap.size w w':=by
 obtain⟨w0,hw0⟩:∃W,W=((w.alloc (.cells (x.arr F) 27)).alloc (.cells #[.int .i64 i,.int .i64 s,.int .i64 a,.int .i64 c] 40)).alloc (.cells #[.int .i64 0,.int .i64 0,.int .i64 0] 127):=⟨_,rfl⟩;have B0:=aa (show Below w.heap.size w w0 by rw[hw0];exact((aD).alloc (by simp) _).alloc (by simp;omega) _)
 have X0:=aa (show Kb [(w.heap.size+1+1,.cells #[.int .i64 0,.int .i64 0,.int .i64 0] 127),(w.heap.size+1,.cells #[.int .i64 i,.int .i64 s,.int .i64 a,.int .i64 c] 40),(w.heap.size,.cells (x.arr F) 27)] w0 by
  rw[hw0];have:=Kb.alloc (o:=.cells #[.int .i64 0,.int .i64 0,.int .i64 0] 127) (Kb.alloc (o:=.cells #[.int .i64 i,.int .i64 s,.int .i64 a,.int .i64 c] 40) (Kb.alloc (W:=w) (o:=.cells (x.arr F) 27) (L:=[]) trivial))
  simpa using this)
 have HS3:=aa (show w0.heap.size=w.heap.size+3 by rw[hw0];simp);have HFF:=aa (fun W (hb:Below w.heap.size w W)=>h.below hb);have HRR:=aa (fun W (hb:Below w.heap.size w W)=>hr.below hb (Nat.le_refl _))
 have HA:=aa (eT w0 x F ar cr l (h.below B0.out) (hr.below B0.out (Nat.le_refl _)) hn hk 160 #[.pointer (some ⟨w.heap.size+1,0,none⟩)] (cZ F i s a c) (enters_of func160 (by kernel_rfl) rfl)
  (fun hg W b o c9 hw hb=>pc W b (w.heap.size+1) _ F l i s a c hw hg.fld (ac hb (lt_of_block X0.out.2.1) X0.out.2.1)))
 have HMZ:=aa (fun(q:aW F l (bq (cZ F i s a c))=0)=>cx.1 q);obtain⟨M,hM⟩:=ag (aW F l (bq (cZ F i s a c)));rw[hM] at HA HMZ ⊢;have kk:=ak X0.out.2.2.1;clear hM h hr hn hk
 unfold FV.val FV.arr at *
 go_enter func88,ntmps88;go_upto_region 1 with fail;rw[←hw0];clear hw0;go_wp2_with fail;refine HA.out.mono ?_;rintro e w1 ⟨hp,hb1⟩;have B1:=bU B0 hb1;have X1:=aa (X0.out.next hb1);clear hb1 HA kk X0;unfold cJ at hp
 by_cases h0:M=0
 rotate_left
 ·have hzb:(M != 0)=true:=by simpa using h0
  rw[if_neg h0] at hp;obtain⟨v,rfl⟩:=hp;have H0:=aa h0;clear h0 HMZ;go_wp2_with (refine wpList_store_row rfl 127 _ _ rfl (w.heap.size+1+1) #[.int .i64 0,.int .i64 0,.int .i64 0] rfl rfl 127 _ X1.out.1 (by kernel_rfl) rfl (by simp[Value.oneCell']) ?_);refine bodyPost_ret (mP results88 _ _ (w.heap.size+1+1) 127 #[.int .i64 0,.int .i64 0,.int .i64 0] (0,0) _ rfl (setRow_heap _ _ _ _ _ _ X1.out.1) underlying127 rfl (by kernel_rfl)) rfl ⟨?_,below_setRow B1.out (Nat.le_add_right w.heap.size 2) _⟩;unfold fk;rw[if_neg H0.out]
  rfl
 subst h0;rw[if_pos rfl] at hp;obtain⟨b,o,c9,rfl,hw,hbl⟩:=hp;obtain⟨q1,q2,q3⟩:=HMZ.out rfl;obtain⟨q4,q5,q6,q7,q8⟩:=pJ q2;have HRW:=aa (fun W (q:WAt W b ⟨x,o,c9,ar,cr⟩ F l)=>gq W b ⟨x,o,c9,ar,cr⟩ F l i s q q1 q3 q4 q5);have pb:=kh q4 q5;have eb:=wb q1 q3 pb.1 pb.2.1;have HNUM:=aa (And.intro q6 (And.intro q7 q8));obtain⟨lo,hlo⟩:=ag (gT F l (eX F i s));obtain⟨hi,hhi⟩:=ag (eF F l (eX F i s));rw[hlo,hhi] at HRW eb;have HEB:=aa eb;have HLO:=aa hlo;have HHI:=aa hhi;have HOQ:=aa (fun(q:Addr) (e:o=some q)=>Nat.le_trans (show w.heap.size+3≤w0.heap.size by have:=HS3.out;omega) (hbl.2 q e));have HBQ:=aa (Nat.le_trans (show w.heap.size+3≤w0.heap.size by have:=HS3.out;omega) hbl.1);have HW:=aa hw;have kx:=ak X1.out.2.1;clear hw hbl HMZ q1 q2 q3 q4 q5 q6 q7 q8 pb eb hlo hhi;go_wp2_with fail;refine(qL _ i s a c).mono ?_;rintro e w2 ⟨rfl,hb2⟩;have B2:=bU B1 hb2;have X2:=aa (X1.out.next hb2);have W2:=aa (HW.out.next hb2);clear hb2 kx X1 HW;go_wp2_with fail;refine(HRW.out _ W2.out).mono ?_;rintro e w3 ⟨rfl,hb3⟩;have B3:=bU B2 hb3;have X3:=aa (X2.out.next hb3);have W3:=aa (W2.out.next hb3);clear hb3 X2 W2 HRW;have kx:=ak X3.out.2.1
 have HCUT:=aa (Au (w3.alloc (.cells #[.int .i64 lo,.int .i64 hi] 3)) i s a c w3.heap.size 2 2 [lo,hi] (by decide) rfl (by decide) (by simp)
  (fun j hj=>by
   match j,hj with
   | 0,_=>exact ce (i:=0) (heap_alloc_new _ _) rfl
   | 1,_=>exact ce (i:=1) (heap_alloc_new _ _) rfl
   | j+2,hj=>exact absurd hj (by simp)) HNUM.out.1 (by have:=HNUM.out;omega) HNUM.out.2.2)
 rw[show Lib.minOf [lo,hi]=lo by show min (min lo lo) hi=lo;have:=HEB.out;omega,show Lib.maxOf [lo,hi]=hi by show max (max lo lo) hi=hi;have:=HEB.out;omega] at HCUT;have hb4:Below w3.heap.size w3 (w3.alloc (.cells #[.int .i64 lo,.int .i64 hi] 3)):=aD;have B4:=bU B3 hb4;have X4:=aa (X3.out.next hb4);have W4:=aa (W3.out.next hb4);clear hb4 B3 X3 W3;go_wp2_with fail;refine HCUT.out.mono ?_;rintro e w5 ⟨rfl,hb5⟩;have B5:=bU B4 hb5;have X5:=aa (X4.out.next hb5);have W5:=aa (W4.out.next hb5);clear hb5 B4 X4 W4 HCUT kx;go_wp2_with (refine wpList_store_row rfl 127 _ _ rfl (w.heap.size+1+1) #[.int .i64 (bH lo a c-a),.int .i64 (bH hi a c-bH lo a c),.int .i64 (c-bH hi a c)] rfl rfl 127 _ X5.out.1 (by kernel_rfl) rfl (by simp[Value.oneCell']) ?_);have B6:=below_setRow B5.out (Nat.le_add_right w.heap.size 2) #[.int .i64 (bH lo a c-a),.int .i64 (bH hi a c-bH lo a c),.int .i64 (c-bH hi a c)];refine bodyPost_ret (mP results88 _ _ (w.heap.size+1+1) 127 #[.int .i64 (bH lo a c-a),.int .i64 (bH hi a c-bH lo a c),.int .i64 (c-bH hi a c)] (0,0) _ rfl (setRow_heap _ _ _ _ _ _ X5.out.1) underlying127 rfl (by kernel_rfl)) rfl ⟨?_,B6⟩;unfold fk;rw[if_pos rfl,HLO.out,HHI.out];refine⟨b,o,c9,rfl,⟨(setRow_other _ _ _ _ (by have:=HBQ.out;omega)).trans W5.out.box,eZ W5.out.bnd (fun q e=>by have:=HOQ.out q e;omega) _,W5.out.cap,HFF.out _ B6,HRR.out _ B6⟩,by have:=HBQ.out;omega⟩
theorem uS (w:World) (x:FV) (F:Fld) (ar:Option Addr) (cr:Nat) (l:List Rcd) (i s a c:Int) (h:FldAt w x F) (hr:cI w ar l) (hn:l.length≤100000) (hk:∀r∈l,(0≤r.call.kind∧r.call.kind≤255)∧r.deed.size≤9223372036854775807) :
 Calls prog 57 #[x.val F,.slice ar l.length cr,.agg #[.int .i64 i,.int .i64 s,.int .i64 a,.int .i64 c]] w fun e w'=>e=.returned (.tuple #[.int .i64 (iP F l i s a c).1.1,.int .i64 (iP F l i s a c).1.2.1,.int .i64 (iP F l i s a c).1.2.2,.int .i64 (iP F l i s a c).2])∧Below w.heap.size w w':=by
 obtain⟨w0,hw0⟩:∃W,W=(w.alloc (.cells (x.arr F) 27)).alloc (.cells #[.int .i64 i,.int .i64 s,.int .i64 a,.int .i64 c] 40):=⟨_,rfl⟩;have B0:=aa (show Below w.heap.size w w0 by rw[hw0];exact(aD).alloc (by simp) _)
 have X0:=aa (show Kb [(w.heap.size+1,.cells #[.int .i64 i,.int .i64 s,.int .i64 a,.int .i64 c] 40),(w.heap.size,.cells (x.arr F) 27)] w0 by
  rw[hw0];have:=Kb.alloc (o:=.cells #[.int .i64 i,.int .i64 s,.int .i64 a,.int .i64 c] 40) (Kb.alloc (W:=w) (o:=.cells (x.arr F) 27) (L:=[]) trivial)
  simpa using this)
 have HA:=aa (kK w0 x F ar cr l i s a c (h.below B0.out) (hr.below B0.out (Nat.le_refl _)) hn hk)
 have hv:∃v,∀e w',fk w0 x F ar cr l i s a c (aW F l (bq (cZ F i s a c))) e w'→∃q,e=.returned (.tuple #[q,.agg #[.int .i64 v.1.1,.int .i64 v.1.2.1,.int .i64 v.1.2.2],.int .i64 v.2])∧v=iP F l i s a c:=by
  refine⟨iP F l i s a c,fun e w' hm=>?_⟩;unfold fk at hm;unfold iP
  by_cases q:aW F l (bq (cZ F i s a c))=0
  ·rw[if_pos q] at hm
   obtain⟨b,o,c9,rfl,_⟩:=hm;rw[if_neg (by omega),];exact⟨_,rfl,rfl⟩
  ·rw[if_neg q] at hm
   rw[if_pos q];exact⟨_,hm,rfl⟩
 obtain⟨⟨⟨p1,p2,p3⟩,er⟩,hv⟩:=hv;have HV:=aa hv;have k0:=ak X0.out.2.1;have k1:=ak X0.out.1;clear hv h hr hn hk
 unfold FV.val FV.arr at *
 go_enter func57,ntmps57;go_upto_region 1 with fail;rw[←hw0];clear hw0;go_wp2_with fail;refine HA.out.mono ?_;rintro e w1 ⟨hm,hb1⟩;obtain⟨q,rfl,hq⟩:=HV.out e w1 hm;have HQ:=aa hq;have B1:=bU B0 hb1;clear hb1 HA k0 k1 hm hq HV;go_upto_region 2 with (refine wpList_store_row rfl 127 _ _ rfl w1.heap.size #[.int .i64 p1,.int .i64 p2,.int .i64 p3] rfl rfl 127 _ (heap_alloc_new _ _) (by kernel_rfl) rfl (by simp[Value.oneCell']) ?_;rw[World.setRow_alloc_new]);refine mj ?_;intro W2 hW2;have kz:=ak (show W2.heap[w1.heap.size]?=some (.cells #[.int .i64 p1,.int .i64 p2,.int .i64 p3] 127 (0,0)) by rw[hW2];exact heap_alloc_new _ _);have B2:=aa (show Below w.heap.size w W2 by rw[hW2];exact B1.out.alloc B1.out.size _);clear hW2
 go_quiet (fail)
 go_wp2_with fail;refine bodyPost_ret (v:=.tuple #[.int .i64 p1,.int .i64 p2,.int .i64 p3,.int .i64 er]) (by simp[results,results57,go_sem]) rfl ⟨by rw[←HQ.out],B2.out.trans (aA _ _)⟩
theorem vJ (w:World) (x:FV) (F:Fld) (ar:Option Addr) (cr:Nat) (l:List Rcd) (i s a c:Int) (h:FldAt w x F) (hr:cI w ar l) (hn:l.length≤100000) (hk:∀r∈l,(0≤r.call.kind∧r.call.kind≤255)∧r.deed.size≤9223372036854775807) :
 Calls prog 30 #[x.val F,.slice ar l.length cr,.agg #[.int .i64 i,.int .i64 s,.int .i64 a,.int .i64 c]] w fun e w'=>e=.returned (.tuple #[.int .u8 (jW F l i s a c).1,.int .i64 (jW F l i s a c).2])∧Below w.heap.size w w':=by
 obtain⟨w0,hw0⟩:∃W,W=(w.alloc (.cells (x.arr F) 27)).alloc (.cells #[.int .i64 i,.int .i64 s,.int .i64 a,.int .i64 c] 40):=⟨_,rfl⟩;have B0:=aa (show Below w.heap.size w w0 by rw[hw0];exact(aD).alloc (by simp) _)
 have X0:=aa (show Kb [(w.heap.size+1,.cells #[.int .i64 i,.int .i64 s,.int .i64 a,.int .i64 c] 40),(w.heap.size,.cells (x.arr F) 27)] w0 by
  rw[hw0];have:=Kb.alloc (o:=.cells #[.int .i64 i,.int .i64 s,.int .i64 a,.int .i64 c] 40) (Kb.alloc (W:=w) (o:=.cells (x.arr F) 27) (L:=[]) trivial)
  simpa using this)
 have HA:=aa (kK w0 x F ar cr l i s a c (h.below B0.out) (hr.below B0.out (Nat.le_refl _)) hn hk)
 have hv:∃p1 p2 p3 er:Int,(∀e w',fk w0 x F ar cr l i s a c (aW F l (bq (cZ F i s a c))) e w'→∃q,e=.returned (.tuple #[q,.agg #[.int .i64 p1,.int .i64 p2,.int .i64 p3],.int .i64 er]))∧(er=0→0≤a∧a<c∧c≤100000)∧jW F l i s a c=if er≠0 then(0,er) else(if p1=0∧p2=0∧p3=c-a then 1 else if p1=c-a∧p2=0∧p3=0 then 2 else 0,0):=by
  by_cases q:aW F l (bq (cZ F i s a c))=0
  ·obtain⟨q1,q2,q3⟩:=cx.1 q
   obtain⟨q4,q5,q6,q7,q8⟩:=pJ q2;have pb:=kh q4 q5;have eb:=wb q1 q3 pb.1 pb.2.1;have ap:=r7 (a:=a) (b:=c) q7 eb.2.1;obtain⟨C,hC⟩:=ag (nK (gT F l (eX F i s)) (eF F l (eX F i s)) a c);rw[hC] at ap;refine⟨C.1,C.2.1,C.2.2,0,fun e w' hm=>?_,fun _=>⟨q6,q7,q8⟩,?_⟩
   ·unfold fk at hm
    rw[if_pos q,hC] at hm;obtain⟨b,o,c9,rfl,_⟩:=hm;exact⟨_,rfl⟩
   ·unfold jW
    rw[if_neg (by omega),if_neg (by simp),←ap];simp only[Prod.ext_iff]
  ·refine⟨0,0,0,aW F l (bq (cZ F i s a c)),fun e w' hm=>?_,fun z=>absurd z q,?_⟩
   ·unfold fk at hm
    rw[if_neg q] at hm;exact⟨_,hm⟩
   ·unfold jW
    rw[if_pos q,if_pos q]
 obtain⟨p1,p2,p3,er,hv,hac,hE⟩:=hv;obtain⟨A1,A2,hAW⟩:∃A1 A2,jW F l i s a c=(A1,A2):=⟨_,_,rfl⟩;rw[hAW] at hE ⊢;have HV:=aa hv;have HE:=aa hE;have HAC:=aa hac;have k0:=ak X0.out.2.1;have k1:=ak X0.out.1;clear hv hE hAW h hr hn hk hac
 unfold FV.val FV.arr at *
 go_enter func30,ntmps30;go_upto_region 1 with fail;rw[←hw0];clear hw0;go_wp2_with fail;refine HA.out.mono ?_;rintro e w1 ⟨hm,hb1⟩;obtain⟨q,rfl⟩:=HV.out e w1 hm;have B1:=bU B0 hb1;have X1:=aa (X0.out.next hb1);clear hb1 HA k0 k1 hm HV;go_upto_region 2 with (refine wpList_store_row rfl 127 _ _ rfl w1.heap.size #[.int .i64 p1,.int .i64 p2,.int .i64 p3] rfl rfl 127 _ (heap_alloc_new _ _) (by kernel_rfl) rfl (by simp[Value.oneCell']) ?_;rw[World.setRow_alloc_new]);refine mj ?_;intro W2 hW2;have kz:=ak (show W2.heap[w1.heap.size]?=some (.cells #[.int .i64 p1,.int .i64 p2,.int .i64 p3] 127 (0,0)) by rw[hW2];exact heap_alloc_new _ _)
 have hb2:Below w1.heap.size w1 W2:=by rw[hW2];exact aD
 have B2:=bU B1 hb2;have ks:=ak (X1.out.next hb2).1;clear hW2 hb2 X1
 by_cases h0:er=0
 rotate_left
 ·have hzb:(er != 0)=true:=by simpa using h0
  have e1:=HE.out;rw[if_pos h0] at e1;cases e1;clear h0;go_wp2_with fail;go_ret2;exact⟨rfl,B2.out⟩
 subst h0;have hac2:=HAC.out rfl;have wd:IntKind.i64.wrap (c-a)=c-a:=IntWalk.i64_in _ (by omega);have e1:=HE.out;rw[if_neg (show ¬(0:Int)≠0 by simp)] at e1;obtain⟨d,hd⟩:=ag (c-a);rw[hd] at e1 wd
 have wd2:IntKind.i64.wrap (c-a)=d:=by rw[hd];exact wd
 clear HE hd hac2 HAC
 by_cases g1:p1=0∧p2=0∧p3=d
 ·rw[if_pos g1] at e1
  obtain⟨rfl,rfl,rfl⟩:=g1;cases e1;go_wp2_with fail;go_ret2;exact⟨rfl,B2.out⟩
 ·rw[if_neg g1] at e1
  have n1:(p1==0&&(p2==0&&p3==d))=false:=by simpa using g1
  by_cases g2:p1=d∧p2=0∧p3=0
  ·rw[if_pos g2] at e1
   cases e1
   have n2:(p1==d&&(p2==0&&p3==0))=true:=by simpa using g2
   have G1:=aa g1;have G2:=aa g2;clear g1 g2;go_wp2_with fail
   all_goals (first|(go_ret2;exact⟨rfl,B2.out⟩)|(exfalso;have g1:=G1.out;have g2:=G2.out;simp_all;done)|(exfalso;have g1:=G1.out;have g2:=G2.out;simp_all;omega))
  ·rw[if_neg g2] at e1
   cases e1
   have n2:(p1==d&&(p2==0&&p3==0))=false:=by simpa using g2
   have G1:=aa g1;have G2:=aa g2;clear g1 g2;go_wp2_with fail
   all_goals (first|(go_ret2;exact⟨rfl,B2.out⟩)|(exfalso;have g1:=G1.out;have g2:=G2.out;simp_all;done)|(exfalso;have g1:=G1.out;have g2:=G2.out;simp_all;omega))
def pM (F:Fld) (l:List Rcd):List Int×Int:=if aW F l 0≠0 then([],aW F l 0) else((l.filter fun r=>fA F l r.id).map Rcd.id,0)
def AL (F:Fld) (l:List Rcd) (k:Nat):List Int:=((l.take k).filter fun r=>fA F l r.id).map Rcd.id
theorem AH (F:Fld) (l:List Rcd):AL F l l.length=(l.filter fun r=>fA F l r.id).map Rcd.id:=by unfold AL;rw[List.take_length]
theorem yT (F:Fld) (l:List Rcd) {k:Nat} (hk:k<l.length):AL F l (k+1)=AL F l k++(if fA F l l[k].id=true then[l[k].id] else[]):=by
 unfold AL;rw[List.take_succ_eq_append_getElem hk,List.filter_append,List.map_append]
 congr 1
 by_cases h:fA F l l[k].id=true<;>simp[h]
theorem Ao (F:Fld) (l:List Rcd) (k:Nat):(AL F l k).length≤l.length:=by
 unfold AL;rw[List.length_map];exact Nat.le_trans (List.length_filter_le _ _) (List.length_take_le' ..)
theorem qG {F:Fld} {l:List Rcd} {id:Int} (hid:id≠0):fc (aj F l) [id]=aj F (bE l id):=by
 rw[←rU hid];unfold fc
 congr 1
 funext b
 by_cases q:b.rcd=id<;>simp[q]
theorem qz {F:Fld} {l:List Rcd} (h:cX F l) {id:Int} (hid:id≠0):gj (bj F) (aj F l) [id]=((bj F:Int),aj F (bE l id),0):=by
 unfold gj;rw[if_pos (ez h),qG hid]
theorem pL {F:Fld} {l:List Rcd} (h:cX F l) (ha:bi F l=true) (id:Int):cX F (bE l id)∧bi F (bE l id)=true:=by
 have g:=zW h (List.filter_sublist (p:=fun r=>decide (r.id≠id)) (l:=l));exact⟨g,yw h g (fun r hr=>(List.mem_filter.1 hr).1) ha⟩
theorem lT {F:Fld} {l:List Rcd} (h:cX F l) (ha:bi F l=true) {a:Nat} (h1:a<bj F):dV (bj F) (aj F l) a=(List.range (bj F)).map (fun b=>aF (bj F) (aj F l) a b)∧dB (bj F) (aj F l) a=(List.range (bj F)).map (fun _=>true):=by
 have T:=zk h ha;unfold dV dB
 constructor
 ·refine List.map_congr_left fun b hb=>?_
  have:=T.fin a b h1 (List.mem_range.1 hb);unfold aC at this;unfold nV;rw[if_neg (by omega)]
 ·refine List.map_congr_left fun b hb=>?_
  have:=T.fin a b h1 (List.mem_range.1 hb);unfold aC at this;unfold nB;exact decide_eq_true (by omega)
theorem uU {F:Fld} {l:List Rcd} (h:cX F l) (ha:bi F l=true) (id:Int):ia (bj F) (aj F l) (aj F (bE l id))=fA F l id:=by
 obtain⟨g,ga⟩:=pL h ha id;rw[Bool.eq_iff_iff,xa];unfold ia sJ;rw[List.all_eq_true]
 constructor
 ·intro k a q
  have:=k a (List.mem_range.2 q);rw[(lT h ha q).1,(lT g ga q).1,Bool.and_eq_true,decide_eq_true_eq] at this;exact this.1.symm
 ·intro k a q
  have q2:=List.mem_range.1 q;rw[(lT h ha q2).1,(lT g ga q2).1,(lT h ha q2).2,(lT g ga q2).2,k a q2];simp
theorem zT {F:Fld} {l:List Rcd} (h:cX F l) {w:World} {o:Option Addr} (hB:BoundsAt w o (aj F l)) (c:Nat):jq o (aj F l).length c:=by
 intro e;subst e
 have m:aj F l≠[]:=by
  have hp:=kX h.fld;have:=(qP (F:=F) (p:=1) (Nat.le_refl _) (by unfold bj;omega)).1;unfold aj;intro q;rw[List.append_eq_nil_iff.1 q |>.1] at this;cases this
 rcases hB with q|⟨_,_,e,_⟩
 ·exact absurd q m
 ·cases e
theorem lK {W:World} {g:Nat} {x:Int} (h:W.heap[g]?=some (.cells #[.int .i64 x] 3 (0,0))):IntsAt W (some ⟨g,0,none⟩) [x] :=
 .inr ⟨g,0,rfl,lt_of_block h,fun i hi=>by
  obtain rfl:i=0:=by simpa using hi
  exact(ak h 0).trans rfl⟩
theorem pC {F:Fld} {l:List Rcd} (h:cX F l) {id:Int} (hid:id≠0) {w:World} {o:Option Addr} {c:Nat} (hc:(aj F l).length≤c∧c≤9223372036854775807) (hB:BoundsAt w o (aj F l)) {a2:Option Addr} (hi:IntsAt w a2 [id]) :
 Calls prog 96 #[.agg #[.int .i64 (bj F),.slice o (aj F l).length c],.slice a2 1 1] w fun e w'=>(∃o2 c2,e=.returned (.tuple #[.agg #[.int .i64 (bj F),.slice o2 (aj F (bE l id)).length c2],.int .i64 0])∧BoundsAt w' o2 (aj F (bE l id))∧∀q,o2=some q→w.heap.size≤q.block∧q.block<w'.heap.size)∧Below w.heap.size w w':=by
 have:=qN w (bj F) o c (aj F l) a2 1 [id] (qx h.fld) (Nat.le_trans hc.1 hc.2) (zT h hB c) hB (by simp) hi;rw[qz h hid] at this;refine this.mono ?_;rintro e w1 ⟨⟨v,rfl,ho⟩,hb⟩;obtain⟨o2,c2,rfl,hB2,-⟩:=d8 ho;refine⟨⟨o2,c2,rfl,hB2,fun q e=>?_⟩,hb⟩;subst e;obtain⟨q1,q2,-⟩:=jh ho (g:=q.block) rfl;exact⟨q2,q1⟩
theorem t6 {F:Fld} {l:List Rcd} (h:cX F l) (ha:bi F l=true) (id:Int) {w:World} {o o2:Option Addr} {c c2:Nat} (hc:(aj F l).length≤c∧c≤9223372036854775807) (hB:BoundsAt w o (aj F l)) (hB2:BoundsAt w o2 (aj F (bE l id))) :
 Calls prog 97 #[.agg #[.int .i64 (bj F),.slice o (aj F l).length c],.agg #[.int .i64 (bj F),.slice o2 (aj F (bE l id)).length c2]] w fun e w'=>e=.returned (.bool (fA F l id))∧Below w.heap.size w w':=by
 obtain⟨g,ga⟩:=pL h ha id;have q:=Aa g
 have:=xS w (bj F) (iC h.fld).2 o c (aj F l) o2 c2 (aj F (bE l id)) (Nat.le_trans hc.1 hc.2) (by omega) hB hB2
  (fun a k=>by rw[kV h (by simp;omega),if_pos ha]) (fun a k=>by rw[kV g (by simp;omega),if_pos ga])
 rw[uU h ha] at this;exact this
theorem wS (w:World) (x:FV) (F:Fld) (ar:Option Addr) (cr:Nat) (l:List Rcd) (h:FldAt w x F) (hr:cI w ar l) (hn:l.length≤100000) (hk:∀r∈l,(0≤r.call.kind∧r.call.kind≤255)∧r.deed.size≤9223372036854775807) :
 Calls prog 37 #[x.val F,.slice ar l.length cr] w fun e w'=>iN (pM F l).1 (pM F l).2 w.heap.size e w'∧Below w.heap.size w w':=by
 obtain⟨w0,hw0⟩:∃W,W=w.alloc (.cells (x.arr F) 27):=⟨_,rfl⟩;have B0:=aa (show Below w.heap.size w w0 by rw[hw0];exact aD);have X0:=aa (show w0.heap[w.heap.size]?=some (.cells (x.arr F) 27 (0,0)) by rw[hw0];exact heap_alloc_new _ _);have HA:=aa (eT w0 x F ar cr l (h.below B0.out) (hr.below B0.out (Nat.le_refl _)) hn hk 95 #[] true (enters_of func95 (by kernel_rfl) rfl) (fun hg W b o c hw hb=>rE W _));rw[show bq true=0 from rfl] at HA;have HRR:=aa (fun W (hb:Below w.heap.size w W)=>hr.below hb (Nat.le_refl _));obtain⟨⟨R1,R2⟩,hR⟩:=ag (pM F l);rw[hR];unfold pM at hR;rw[←AH] at hR;have HMZ:=aa (fun(q:aW F l 0=0)=>cx.1 q);obtain⟨M,hM⟩:=ag (aW F l 0);rw[hM] at HA hR HMZ;have HR:=aa hR;have HNL:=aa hn;have kk:=ak X0.out;clear hM h hr hn hk hR
 unfold FV.val FV.arr at *
 go_enter func37,ntmps37;go_upto_region 1 with fail;rw[←hw0];clear hw0;go_wp2_with fail;refine HA.out.mono ?_;rintro e w1 ⟨hp,hb1⟩;have B1:=bU B0 hb1;clear hb1 HA kk X0;unfold cJ at hp
 by_cases h0:M=0
 rotate_left
 ·have hzb:(M != 0)=true:=by simpa using h0
  rw[if_neg h0] at hp;have hq:=HR.out;rw[if_pos h0] at hq;obtain⟨v,rfl⟩:=hp;cases hq;clear h0 HR HMZ;go_wp2_with fail;refine bodyPost_ret (v:=.tuple #[.slice none 0 0,.int .i64 R2]) (by simp[results,results37,go_sem]) rfl ⟨⟨_,rfl,World.ownsRow_nil _ _ _ _⟩,B1.out⟩
 subst h0;rw[if_pos rfl] at hp;have hq:=HR.out;rw[if_neg (by simp)] at hq;obtain⟨b,o,c,rfl,hw,hbl⟩:=hp;obtain⟨q1,q2,q3⟩:=HMZ.out rfl;have HW:=aa hw;have HCAP:=aa hw.cap;have HID:=aa (fun r (hr:r∈l)=>gU (q1.each r hr).1);have HWO:=aa (fun W (hb:Below w1.heap.size w1 W) id (hid:id≠0) a2 (hi:IntsAt W a2 [id])=>pC q1 hid HCAP.out (hw.bnd.below hb (Nat.le_refl _)) hi);have HAL:=aa (fun W (hb:Below w1.heap.size w1 W) id o2 c2 (hB2:BoundsAt W o2 (aj F (bE l id)))=>t6 (c2:=c2) q1 q3 id HCAP.out (hw.bnd.below hb (Nat.le_refl _)) hB2);have HKX:=aa (fun W (hb:Below w1.heap.size w1 W)=>ak (hw.next hb).box);obtain⟨P,hP⟩:∃P:Int,((bj F:Nat):Int)=P:=⟨_,rfl⟩;obtain⟨LN,hLN⟩:=ag ((aj F l).length);unfold WV.arr at HKX;rw[hP,hLN] at HWO HAL HKX;cases hq;clear hP hLN q1 q2 q3 hw hbl HR HMZ HCAP;go_wp2_with fail
 go_loopw [8,24] (fun v p wr=>∃(k:Nat),k≤l.length∧p=.int .i64 (k:Int)∧Hid (wr.ownsRow w1.heap.size 3 1 v (AL F l k).length (ay (AL F l k)))∧Hid (Below w1.heap.size w1 wr)) (fun _ p _=>l.length-(intOf p).toNat)
 case atStart=>exact⟨0,Nat.zero_le _,rfl,aa (World.ownsRow_nil _ _ _ _),aa (Below.refl _ _)⟩
 case round =>
  obtain⟨k,hkl,rfl,HO,HB⟩:=hrel;have HNL2:=HNL.out
  by_cases hlt:k<l.length
  rotate_left
  ·obtain rfl:k=l.length:=by omega
   go_wp2_with fail;refine bodyPost_ret (v:=.tuple #[u8,.int .i64 0]) (by simp[results,results37,go_sem]) rfl ⟨⟨_,rfl,bF HO.out B1.out.size⟩,bB B1.out HB.out⟩
  have HS:=aa (yT F l hlt);have HL:=aa (Ao F l k);have HIK:=aa (HID.out l[k] (List.getElem_mem hlt));obtain⟨rb,ro,e1,hbl,hcc⟩:=RecsAt.at (HRR.out wr (bB B1.out HB.out)) hlt;have HCC:=aa (jw hcc);obtain⟨r,hr⟩:=ag (l[k]);rw[hr] at HS HIK HCC;subst e1;clear hr hcc hbl HID;obtain⟨wA,rfl⟩:∃z:World,z=wr:=⟨wr,rfl⟩;go_upto_region 7 with fail;refine wp_region_list ?_;go_upto_region 8 with (first|(refine wpList_load_mid rfl 50 _ rfl rb (ro+k*18) rfl _ _ HCC.out underlying50 rfl (by kernel_rfl) ?_)|(refine wpList_store_row rfl 50 _ _ rfl wA.heap.size r.vals rfl rfl 50 _ (heap_alloc_new _ _) (by kernel_rfl) (by kernel_rfl) (by simp[Rcd.vals,Value.oneCell']) ?_;rw[World.setRow_alloc_new]));refine mj ?_;intro W2 hW2
  have hb2:Below wA.heap.size wA W2:=by rw[hW2];exact aD
  have X2:=aa (show W2.heap[wA.heap.size]?=some (.cells r.vals 50 (0,0)) by rw[hW2];exact heap_alloc_new _ _);have B2:=bU HB hb2;have HO2:=aa (gH HO.out hb2);obtain⟨A,hA⟩:=ag wA.heap.size;rw[hA] at X2 ⊢;clear hW2 hb2 HO HCC hA;obtain⟨id,hid⟩:=ag r.id;have HRID:=aa hid;rw[hid] at HS HIK;have HWI:=aa (fun W (hb:Below w1.heap.size w1 W) a2 hi=>HWO.out W hb id (by have:=HIK.out;omega) a2 hi);have HAI:=aa (fun W (hb:Below w1.heap.size w1 W) o2 c2 hi=>HAL.out W hb id o2 c2 hi);obtain⟨Z,hZ⟩:=ag (aj F (bE l id));obtain⟨ib,hib⟩:=ag (fA F l id);rw[hZ] at HWI HAI;rw[hib] at HAI HS;obtain⟨LZ,hLZ⟩:=ag Z.length;rw[hLZ] at HWI HAI;clear hid hZ hib hLZ;simp only[Act.put]
  go_cut [11,12] (fun t _ wx=>∃g o2 c2,t=.pointer (some ⟨g,0,none⟩)∧Hid (wx.heap[g]?=some (.cells #[.int .i64 P,.slice o2 LZ c2] 61 (0,0)))∧Hid (BoundsAt wx o2 Z)∧Hid (Below W2.heap.size W2 wx))
  case first =>
   refine aJ (S:=Below W2.heap.size W2) (last:=100) (by kernel_rfl) ?_;obtain⟨W0,hW0⟩:∃W,W=W2.drew:=⟨_,rfl⟩
   have hS0:Below W2.heap.size W2 W0:=by rw[hW0];exact(Below.refl _ _).drew
   rw[←hW0];clear hW0;refine aR 0 29 (.pointer (some ⟨b,0,none⟩)) hS0 ?_;(try simp only[s3]);refine aR 1 30 (.pointer (some ⟨b,0,none⟩)) hS0 ?_;(try simp only[s3]);refine aR 2 31 (.pointer (some ⟨b,0,none⟩)) hS0 ?_;(try simp only[s3]);refine tf 3 32 (.agg #[.int .i64 P,.slice o LN c]) hS0 (fun V hV=>?_) ?_
   ·(have z0:V.cell? ⟨b,0,none⟩=some (.int .i64 P):=(HKX.out V (bB B2.out hV) 0).trans rfl;have z1:V.cell? ⟨b,1,none⟩=some (.slice o LN c):=(HKX.out V (bB B2.out hV) 1).trans rfl;simp[go_sem,execOp,z0,z1])
   (try simp only[s3]);refine aR 4 33 (.pointer (some ⟨A,0,none⟩)) hS0 ?_;(try simp only[s3]);refine tf 5 34 (.int .i64 id) hS0 (fun V hV=>?_) ?_
   ·(have z:V.cell? ⟨A,0,none⟩=some (.int .i64 r.id):=ce (i:=0) (ac hV (lt_of_block X2.out) X2.out) rfl;rw[←HRID.out];simp[go_sem,execOp,z])
   (try simp only[s3]);refine ei 6 11 rfl rfl (by kernel_rfl) (fun K hK=>?_) (fun K hK=>?_)
   ·go_simp
    obtain⟨wq1,hW1⟩:∃Z,Z=W0.alloc (.cells #[.int .i64 id] 3):=⟨_,rfl⟩;rw[←hW1]
    have hb1:Below W0.heap.size W0 wq1:=by rw[hW1];exact aD
    have hS1:Below W2.heap.size W2 wq1:=bB hS0 hb1
    have XI:wq1.heap[W0.heap.size]?=some (.cells #[.int .i64 id] 3 (0,0)):=by rw[hW1];exact heap_alloc_new _ _
    have XIge:W2.heap.size≤W0.heap.size:=hS0.size;obtain⟨gi,hgi⟩:=ag W0.heap.size;rw[hgi] at XI XIge ⊢;clear hW1 hgi hb1;refine hK.out _ _ (.inr hS1) ?_;clear hK K;(try simp only[Act.put,s3]);refine ei 7 11 rfl rfl (by kernel_rfl) (fun K hK=>?_) (fun K hK=>?_)
    ·go_simp
     go_at_call 96;refine(HWI.out _ (bB B2.out hS1) _ (lK XI)).mono ?_;rintro e wq2 ⟨⟨o2,c2,rfl,HZ,HQ⟩,hb2⟩;have hS2:Below W2.heap.size W2 wq2:=bB hS1 hb2;replace XI:=ac hb2 (lt_of_block XI) XI;clear hb2;go_wp2_with fail;refine hK.out _ _ (.inr hS2) ?_;clear hK K;(try simp only[Act.put,s3]);refine aR 8 28 (.tuple #[.agg #[.int .i64 P,.slice o2 LZ c2],.int .i64 0]) hS2 ?_;(try simp only[s3]);refine aR 9 37 (.agg #[.int .i64 P,.slice o2 LZ c2]) hS2 ?_;(try simp only[s3]);refine aR 10 38 (.int .i64 0) hS2 ?_;(try simp only[s3]);refine ae 11 rfl (by kernel_rfl) (fun K hK=>?_);go_simp;obtain⟨wq3,hW3⟩:∃Z,Z=wq2.alloc (.cells #[.int .i64 0,.slice none 0 0] 61):=⟨_,rfl⟩;rw[←hW3]
     have hb3:Below wq2.heap.size wq2 wq3:=by rw[hW3];exact aD
     have hS3:Below W2.heap.size W2 wq3:=bB hS2 hb3;replace XI:=ac hb3 (lt_of_block XI) XI;replace HZ:=HZ.below hb3 (Nat.le_refl _)
     have XG:wq3.heap[wq2.heap.size]?=some (.cells #[.int .i64 0,.slice none 0 0] 61 (0,0)):=by rw[hW3];exact heap_alloc_new _ _
     have XGge:W2.heap.size≤wq2.heap.size:=hS2.size;obtain⟨g,hg⟩:=ag wq2.heap.size;rw[hg] at XG XGge ⊢
     have HNE:∀q,o2=some q→q.block≠g:=fun q e=>by have:=(HQ q e).2;omega
     clear hW3 hg hb3;refine hK.out _ _ (.inr hS3) ?_;clear hK K;(try simp only[Act.put,s3]);refine ae 12 rfl (by kernel_rfl) (fun K hK=>?_);refine Eq.mpr (if_pos (by kernel_rfl)) ?_;refine wp_store_row 61 _ _ rfl g #[.int .i64 P,.slice o2 LZ c2] rfl rfl 61 _ XG (by kernel_rfl) rfl (by simp[Value.oneCell']) ?_;have XF:=setRow_heap _ _ _ #[.int .i64 P,.slice o2 LZ c2] _ _ XG;have hSF:=below_setRow (cs:=#[.int .i64 P,.slice o2 LZ c2]) hS3 XGge;have HZF:=eZ HZ HNE #[.int .i64 P,.slice o2 LZ c2];refine hK.out _ _ (.inr hSF) ?_;clear hK K;(try simp only[Act.put,sA]);refine aR 13 12 (.int .i64 0) hSF ?_;(try simp only[s3]);refine aw (by kernel_rfl) ?_ _;go_wp2_with fail;go_meet;exact⟨g,o2,c2,rfl,aa XF,aa HZF,aa hSF⟩
    ·go_simp
     obtain⟨wq2,hW2⟩:∃Z,Z=wq1.alloc (.cells #[.int .i64 0,.slice none 0 0] 61):=⟨_,rfl⟩;rw[←hW2]
     have hb2:Below wq1.heap.size wq1 wq2:=by rw[hW2];exact aD
     have hS2:Below W2.heap.size W2 wq2:=bB hS1 hb2;replace XI:=ac hb2 (lt_of_block XI) XI
     have XG:wq2.heap[wq1.heap.size]?=some (.cells #[.int .i64 0,.slice none 0 0] 61 (0,0)):=by rw[hW2];exact heap_alloc_new _ _
     have XGge:W2.heap.size≤wq1.heap.size:=hS1.size;obtain⟨g,hg⟩:=ag wq1.heap.size;rw[hg] at XG XGge ⊢;clear hW2 hg hb2;refine hK.out _ _ (.inr hS2) ?_;clear hK K;(try simp only[Act.put,s3]);refine ae 7 rfl (by kernel_rfl) (fun K hK=>?_);have XGb:=lt_of_block XG;go_simp;go_at_call 96;refine(HWI.out _ (bB B2.out hS2) _ (lK XI)).mono ?_;rintro e wq3 ⟨⟨o2,c2,rfl,HZ,HQ⟩,hb3⟩;have hS3:Below W2.heap.size W2 wq3:=bB hS2 hb3;replace XI:=ac hb3 (lt_of_block XI) XI;replace XG:=ac hb3 (lt_of_block XG) XG
     have HNE:∀q,o2=some q→q.block≠g:=fun q e=>by have:=(HQ q e).1;omega
     clear XGb;clear hb3;go_wp2_with fail;refine hK.out _ _ (.inr hS3) ?_;clear hK K;(try simp only[Act.put,s3]);refine aR 8 28 (.tuple #[.agg #[.int .i64 P,.slice o2 LZ c2],.int .i64 0]) hS3 ?_;(try simp only[s3]);refine aR 9 37 (.agg #[.int .i64 P,.slice o2 LZ c2]) hS3 ?_;(try simp only[s3]);refine aR 10 38 (.int .i64 0) hS3 ?_;(try simp only[s3]);refine ae 12 rfl (by kernel_rfl) (fun K hK=>?_);refine Eq.mpr (if_pos (by kernel_rfl)) ?_;refine wp_store_row 61 _ _ rfl g #[.int .i64 P,.slice o2 LZ c2] rfl rfl 61 _ XG (by kernel_rfl) rfl (by simp[Value.oneCell']) ?_;have XF:=setRow_heap _ _ _ #[.int .i64 P,.slice o2 LZ c2] _ _ XG;have hSF:=below_setRow (cs:=#[.int .i64 P,.slice o2 LZ c2]) hS3 XGge;have HZF:=eZ HZ HNE #[.int .i64 P,.slice o2 LZ c2];refine hK.out _ _ (.inr hSF) ?_;clear hK K;(try simp only[Act.put,sA]);refine aR 13 12 (.int .i64 0) hSF ?_;(try simp only[s3]);refine aw (by kernel_rfl) ?_ _;go_wp2_with fail;go_meet;exact⟨g,o2,c2,rfl,aa XF,aa HZF,aa hSF⟩
   ·go_simp
    obtain⟨wq1,hW1⟩:∃Z,Z=W0.alloc (.cells #[.int .i64 0,.slice none 0 0] 61):=⟨_,rfl⟩;rw[←hW1]
    have hb1:Below W0.heap.size W0 wq1:=by rw[hW1];exact aD
    have hS1:Below W2.heap.size W2 wq1:=bB hS0 hb1
    have XG:wq1.heap[W0.heap.size]?=some (.cells #[.int .i64 0,.slice none 0 0] 61 (0,0)):=by rw[hW1];exact heap_alloc_new _ _
    have XGge:W2.heap.size≤W0.heap.size:=hS0.size;obtain⟨g,hg⟩:=ag W0.heap.size;rw[hg] at XG XGge ⊢;clear hW1 hg hb1;refine hK.out _ _ (.inr hS1) ?_;clear hK K;(try simp only[Act.put,s3]);refine ae 6 rfl (by kernel_rfl) (fun K hK=>?_);go_simp;obtain⟨wq2,hW2⟩:∃Z,Z=wq1.alloc (.cells #[.int .i64 id] 3):=⟨_,rfl⟩;rw[←hW2]
    have hb2:Below wq1.heap.size wq1 wq2:=by rw[hW2];exact aD
    have hS2:Below W2.heap.size W2 wq2:=bB hS1 hb2;replace XG:=ac hb2 (lt_of_block XG) XG
    have XI:wq2.heap[wq1.heap.size]?=some (.cells #[.int .i64 id] 3 (0,0)):=by rw[hW2];exact heap_alloc_new _ _
    have XIge:W2.heap.size≤wq1.heap.size:=hS1.size;obtain⟨gi,hgi⟩:=ag wq1.heap.size;rw[hgi] at XI XIge ⊢;clear hW2 hgi hb2;refine hK.out _ _ (.inr hS2) ?_;clear hK K;(try simp only[Act.put,s3]);refine ae 7 rfl (by kernel_rfl) (fun K hK=>?_);have XGb:=lt_of_block XG;go_simp;go_at_call 96;refine(HWI.out _ (bB B2.out hS2) _ (lK XI)).mono ?_;rintro e wq3 ⟨⟨o2,c2,rfl,HZ,HQ⟩,hb3⟩;have hS3:Below W2.heap.size W2 wq3:=bB hS2 hb3;replace XG:=ac hb3 (lt_of_block XG) XG;replace XI:=ac hb3 (lt_of_block XI) XI
    have HNE:∀q,o2=some q→q.block≠g:=fun q e=>by have:=(HQ q e).1;omega
    clear XGb;clear hb3;go_wp2_with fail;refine hK.out _ _ (.inr hS3) ?_;clear hK K;(try simp only[Act.put,s3]);refine aR 8 28 (.tuple #[.agg #[.int .i64 P,.slice o2 LZ c2],.int .i64 0]) hS3 ?_;(try simp only[s3]);refine aR 9 37 (.agg #[.int .i64 P,.slice o2 LZ c2]) hS3 ?_;(try simp only[s3]);refine aR 10 38 (.int .i64 0) hS3 ?_;(try simp only[s3]);refine ae 12 rfl (by kernel_rfl) (fun K hK=>?_);refine Eq.mpr (if_pos (by kernel_rfl)) ?_;refine wp_store_row 61 _ _ rfl g #[.int .i64 P,.slice o2 LZ c2] rfl rfl 61 _ XG (by kernel_rfl) rfl (by simp[Value.oneCell']) ?_;have XF:=setRow_heap _ _ _ #[.int .i64 P,.slice o2 LZ c2] _ _ XG;have hSF:=below_setRow (cs:=#[.int .i64 P,.slice o2 LZ c2]) hS3 XGge;have HZF:=eZ HZ HNE #[.int .i64 P,.slice o2 LZ c2];refine hK.out _ _ (.inr hSF) ?_;clear hK K;(try simp only[Act.put,sA]);refine aR 13 12 (.int .i64 0) hSF ?_;(try simp only[s3]);refine aw (by kernel_rfl) ?_ _;go_wp2_with fail;go_meet;exact⟨g,o2,c2,rfl,aa XF,aa HZF,aa hSF⟩
  case rest =>
  obtain⟨g,o2,c2,rfl,HG,HZ,HB3⟩:=hcut;obtain⟨W3,rfl⟩:∃x:World,x=wc:=⟨wc,rfl⟩;have B3:=bU B2 HB3.out;have X3:=aa (ac HB3.out (lt_of_block X2.out) X2.out);have HO3:=aa (gH HO2.out HB3.out);clear HB3 X2 HO2 B2;have XG:=HG.out;have HZ3:=HZ.out;have kx3:=HKX.out W3 B3.out;clear HG HZ;go_upto_region 9 with fail
  go_cut [44] (fun t wx=>t=.bool ib∧Hid (Below W3.heap.size W3 wx))
  case first =>
   refine aJ (S:=Below W3.heap.size W3) (last:=100) (by kernel_rfl) ?_;obtain⟨W0,hW0⟩:∃W,W=W3.drew:=⟨_,rfl⟩
   have hS0:Below W3.heap.size W3 W0:=by rw[hW0];exact(Below.refl _ _).drew
   rw[←hW0];clear hW0;refine aR 0 39 (.pointer (some ⟨b,0,none⟩)) hS0 ?_;(try simp only[s3]);refine aR 1 40 (.pointer (some ⟨b,0,none⟩)) hS0 ?_;(try simp only[s3]);refine aR 2 41 (.pointer (some ⟨b,0,none⟩)) hS0 ?_;(try simp only[s3]);refine tf 3 42 (.agg #[.int .i64 P,.slice o LN c]) hS0 (fun V hV=>?_) ?_
   ·(have z0:V.cell? ⟨b,0,none⟩=some (.int .i64 P):=(HKX.out V (bB B3.out hV) 0).trans rfl;have z1:V.cell? ⟨b,1,none⟩=some (.slice o LN c):=(HKX.out V (bB B3.out hV) 1).trans rfl;simp[go_sem,execOp,z0,z1])
   (try simp only[s3]);refine tf 4 43 (.agg #[.int .i64 P,.slice o2 LZ c2]) hS0 (fun V hV=>?_) ?_
   ·exact gp rfl rfl (ac hV (lt_of_block XG) XG) underlying61 rfl (by kernel_rfl)
   (try simp only[s3]);refine ae 5 rfl (by kernel_rfl) (fun K hK=>?_);go_simp;go_at_call 97;refine(HAI.out _ (bB B3.out hS0) _ _ (HZ3.below hS0 (Nat.le_refl _))).mono ?_;rintro e wq1 ⟨rfl,hb1⟩;have hS1:Below W3.heap.size W3 wq1:=bB hS0 hb1;clear hb1;go_wp2_with fail;refine hK.out _ _ (.inr hS1) ?_;clear hK K;(try simp only[Act.put,s3]);refine aw (by kernel_rfl) ?_ _;go_wp2_with fail;go_meet;exact⟨rfl,aa hS1⟩
  case rest =>
  obtain⟨rfl,HB4⟩:=hcut;obtain⟨W4,rfl⟩:∃x:World,x=wc:=⟨wc,rfl⟩;have B4:=bU B3 HB4.out;have X4:=aa (ac HB4.out (lt_of_block X3.out) X3.out);have HO4:=aa (gH HO3.out HB4.out);clear HB4 X3 HO3 B3 XG HZ3 kx3;have hS:=HS.out;cases ib
  ·rw[if_neg (by simp),List.append_nil] at hS
   rw[←hS] at HO4;go_wp2_with fail;go_roundw
   case rel=>exact⟨k+1,by omega,by go_num,HO4,B4⟩
   case measure=>simp[intOf];omega
  ·rw[if_pos rfl] at hS
   obtain⟨v',W5,hrun,ho5,hb5,-⟩:=vE HO4.out id (by have:=HL.out;have:=HNL.out;omega) B4.out.size;rw[←hS] at ho5;have HRUN:=aa hrun;have HO5:=aa ho5;have B5:=aa (B4.out.trans hb5);have ka:=ak X4.out
   have kid:W4.cell? ⟨A,0,none⟩=some (.int .i64 id):=by rw[←HRID.out];exact(ka 0).trans rfl
   clear hrun ho5 hb5 hS HO4 B4 X4 ka;go_wp2_with (at_builtin;refine aN rfl (s:=.tmp 45) (x:=.tmp 48) (t:=52) rfl rfl rfl HRUN.out ?_);go_roundw
   case rel=>exact⟨k+1,by omega,by go_num,HO5,B5⟩
   case measure=>simp[intOf];omega
def Aj (F:Fld) (l:List Rcd) (p:Nat) (upper:Bool):List Int :=
 bY ((if upper=true then dA (bj F) (aj F l) 0 p else dA (bj F) (aj F l) p 0).map (dg (aj F l)))
def xz (F:Fld) (l:List Rcd) (i s:Int) (upper:Bool):List Int×Int :=
 if aW F l (bq (bD F i s))≠0 then([],aW F l (bq (bD F i s))) else(Aj F l (eX F i s) upper,0)
theorem zy (W:World) (b g:Nat) (y:WV) (F:Fld) (l:List Rcd) (i s:Int) (h:WAt W b y F l) (hF:F.check=0) (hg:W.heap[g]?=some (.cells #[.int .i64 i,.int .i64 s] 30 (0,0))) :
 Calls prog 113 #[.pointer (some ⟨b,0,none⟩),.pointer (some ⟨g,0,none⟩)] W fun e w'=>e=.returned (.bool (bD F i s))∧Below W.heap.size W w':=by
 have HC:=aa (fW W b y F l i s h hF);have kk:=ak hg;clear h hF hg;go_enter func113,ntmps113;go_wp2_with fail;refine HC.out.mono ?_;rintro e w1 ⟨rfl,hb1⟩;go_wp2_with fail;go_ret;exact⟨rfl,hb1⟩
theorem vB {F:Fld} {l:List Rcd} (h:cX F l) (ha:bi F l=true) {a b:Nat} (h1:a<bj F) (h2:b<bj F) {w:World} {o:Option Addr} {c:Nat} (hc:(aj F l).length≤c∧c≤9223372036854775807) (hB:BoundsAt w o (aj F l)) :
 Calls prog 114 #[.agg #[.int .i64 (bj F),.slice o (aj F l).length c],.int .i64 (a:Int),.int .i64 (b:Int)] w fun e w'=>(∃a2 c2,e=.returned (.tuple #[.slice a2 (dA (bj F) (aj F l) a b).length c2,.int .i64 0])∧IntsAt w' a2 (dA (bj F) (aj F l) a b))∧Below w.heap.size w w':=by
 have:=zE w (bj F) o c (aj F l) a b (qx h.fld) (Nat.le_trans hc.1 hc.2) hB;rw[(oK h ha h1 h2).1] at this;refine this.mono ?_;rintro e w1 ⟨⟨v,rfl,ho⟩,hb⟩;obtain⟨a2,c2,rfl,hin⟩:=mK ho;exact⟨⟨a2,c2,rfl,hin⟩,hb⟩
theorem pg {F:Fld} {l:List Rcd} (h:cX F l) {cl:List Int} (hix:bO (aj F l).length cl=true) (hlen:cl.length≤4000) {w:World} {o:Option Addr} {c:Nat} (hc:(aj F l).length≤c∧c≤9223372036854775807) (hB:BoundsAt w o (aj F l)) {a2:Option Addr} {c2:Nat} (hi:IntsAt w a2 cl) :
 Calls prog 87 #[.agg #[.int .i64 (bj F),.slice o (aj F l).length c],.slice a2 cl.length c2] w fun e w'=>(∃v,e=.returned (.tuple #[v,.int .i64 0])∧w'.ownsRow w.heap.size 3 1 v (bY (cl.map (dg (aj F l)))).length (ay (bY (cl.map (dg (aj F l))))))∧Below w.heap.size w w':=by
 have:=kI w (bj F) o c (aj F l) a2 c2 cl (qx h.fld) (Nat.le_trans hc.1 hc.2) hB hlen hi;rw[jG h hix] at this;exact this
theorem zM (w:World) (x:FV) (F:Fld) (ar:Option Addr) (cr:Nat) (l:List Rcd) (i s:Int) (upper:Bool) (h:FldAt w x F) (hr:cI w ar l) (hn:l.length≤100000) (hk:∀r∈l,(0≤r.call.kind∧r.call.kind≤255)∧r.deed.size≤9223372036854775807) :
 Calls prog 46 #[x.val F,.slice ar l.length cr,.agg #[.int .i64 i,.int .i64 s],.bool upper] w fun e w'=>iN (xz F l i s upper).1 (xz F l i s upper).2 w.heap.size e w'∧Below w.heap.size w w':=by
 obtain⟨w0,hw0⟩:∃W,W=(w.alloc (.cells (x.arr F) 27)).alloc (.cells #[.int .i64 i,.int .i64 s] 30):=⟨_,rfl⟩;have B0:=aa (show Below w.heap.size w w0 by rw[hw0];exact(aD).alloc (by simp) _)
 have X0:=aa (show Kb [(w.heap.size+1,.cells #[.int .i64 i,.int .i64 s] 30),(w.heap.size,.cells (x.arr F) 27)] w0 by
  rw[hw0];have:=Kb.alloc (o:=.cells #[.int .i64 i,.int .i64 s] 30) (Kb.alloc (W:=w) (o:=.cells (x.arr F) 27) (L:=[]) trivial)
  simpa using this)
 have HA:=aa (eT w0 x F ar cr l (h.below B0.out) (hr.below B0.out (Nat.le_refl _)) hn hk 113 #[.pointer (some ⟨w.heap.size+1,0,none⟩)] (bD F i s) (enters_of func113 (by kernel_rfl) rfl)
  (fun hg W b o c hw hb=>zy W b (w.heap.size+1) _ F l i s hw hg.fld (ac hb (lt_of_block X0.out.1) X0.out.1)))
 obtain⟨⟨R1,R2⟩,hR⟩:=ag (xz F l i s upper);rw[hR];unfold xz at hR;have HMZ:=aa (fun(q:aW F l (bq (bD F i s))=0)=>cx.1 q);have HPW:=aa (fun W b y (hw:WAt W b y F l) (hf:F.check=0) (p:bZ F i=true) (q:aY F s=true)=>ir W b y F l i s hw hf p q);obtain⟨M,hM⟩:=ag (aW F l (bq (bD F i s)));rw[hM] at HA hR HMZ;have HR:=aa hR;have kk:=ak X0.out.2.1;clear hM h hr hn hk hR
 unfold FV.val FV.arr at *
 go_enter func46,ntmps46;go_upto_region 1 with fail;rw[←hw0];clear hw0;go_wp2_with fail;refine HA.out.mono ?_;rintro e w1 ⟨hp,hb1⟩;have B1:=bU B0 hb1;have X1:=aa (X0.out.next hb1);clear hb1 HA kk X0;unfold cJ at hp
 by_cases h0:M=0
 rotate_left
 ·have hzb:(M != 0)=true:=by simpa using h0
  rw[if_neg h0] at hp;have hq:=HR.out;rw[if_pos h0] at hq;obtain⟨v,rfl⟩:=hp;cases hq;clear h0 HR HMZ HPW;go_wp2_with fail;refine bodyPost_ret (v:=.tuple #[.slice none 0 0,.int .i64 R2]) (by simp[results,results46,go_sem]) rfl ⟨⟨_,rfl,World.ownsRow_nil _ _ _ _⟩,B1.out⟩
 subst h0;rw[if_pos rfl] at hp;have hq:=HR.out;rw[if_neg (by simp)] at hq;obtain⟨b,o,c,rfl,hw,hbl⟩:=hp;obtain⟨q1,q2,q3⟩:=HMZ.out rfl;obtain⟨q4,q5⟩:=tu q2;have HPT:=aa (HPW.out w1 b _ hw q1.fld q4 q5);have pb:=kh q4 q5;have pl:=iC q1.fld;have HCAP:=aa hw.cap;have HPA:=aa (fun W (hb:Below w1.heap.size w1 W) a b (p:a<bj F) (q:b<bj F)=>vB (a:=a) (b:=b) q1 q3 p q HCAP.out (hw.bnd.below hb (Nat.le_refl _)));have HPL:=aa (fun a b (p:a<bj F) (q:b<bj F)=>(oK (a:=a) (b:=b) q1 q3 p q).2);have HRE:=aa (fun W cl a2 c2 (hb:Below w1.heap.size w1 W) (hix:bO (aj F l).length cl=true) (q:List.length cl≤4000) (hc:IntsAt W a2 cl)=>pg (c2:=c2) q1 hix q HCAP.out (hw.bnd.below hb (Nat.le_refl _)) hc);have HKX:=aa (fun W (hb:Below w1.heap.size w1 W)=>ak (hw.next hb).box);obtain⟨p,hpp⟩:=ag (eX F i s);rw[hpp] at HPT pb hq;have HQ:=aa hq;have HPB:=aa pb;have HPQ:=aa pl;have kx:=ak X1.out.1;clear hw hbl HMZ HPW q1 q2 q3 q4 q5 pb pl hpp hq HR;go_wp2_with fail;refine HPT.out.mono ?_;rintro e w2 ⟨rfl,hb2⟩;have B2:=bU B1 hb2;have HC2:=aa hb2;have ky:=HKX.out _ hb2;unfold WV.arr at ky;clear hb2 kx HPT;cases upper
 ·have z0:(p:Nat)<bj F:=by have:=HPB.out;have:=HPQ.out;omega
  have z1:(0:Nat)<bj F:=by have:=HPB.out;have:=HPQ.out;omega
  have HP2:=aa (HPA.out w2 HC2.out p 0 z0 z1);obtain⟨l1,l2,-⟩:=HPL.out p 0 z0 z1;have HL1:=aa (show(dA (bj F) (aj F l) p 0).length≤4000 by have:=HPQ.out;omega);have HIX:=aa l2;have hq:=HQ.out;unfold Aj at hq;rw[if_neg (by simp)] at hq;obtain⟨PL,hPL⟩:=ag (dA (bj F) (aj F l) p 0);rw[hPL] at HP2 HL1 HIX hq;have HR2:=aa (fun W a2 c2 (hb:Below w1.heap.size w1 W) (hc:IntsAt W a2 PL)=>HRE.out W PL a2 c2 hb HIX.out HL1.out hc);have HK2:=aa (fun W (hb:Below w1.heap.size w1 W)=>HKX.out W hb);obtain⟨RS,hRS⟩:=ag (bY (PL.map (dg (aj F l))));rw[hRS] at HR2 hq;cases hq;clear z0 z1 l1 l2 HPL hPL hRS HRE HIX HL1 HPA HKX;obtain⟨N,hN⟩:∃N:Int,((bj F:Nat):Int)=N:=⟨_,rfl⟩;obtain⟨LN,hLN⟩:=ag ((aj F l).length);have HNE:=aa hN;have HLN:=aa hLN;rw[hN,hLN] at ky HP2 HR2;clear hN hLN;go_wp2_with fail;refine HP2.out.mono ?_;rintro e w3 ⟨⟨a2,c2,rfl,hin⟩,hb3⟩;have HC3:=bU HC2 hb3;have B3:=bU B2 hb3;have kz:=HK2.out _ HC3.out;unfold WV.arr at kz;rw[HNE.out,HLN.out] at kz;have HR3:=aa (HR2.out w3 a2 c2 HC3.out hin);obtain⟨PN,hPN⟩:=ag PL.length;rw[hPN] at HR3;rw[hPN];clear hb3 hin HR2 HK2 HP2 ky hPN;go_wp2_with fail;refine HR3.out.mono ?_;rintro e w4 ⟨⟨v,rfl,ho⟩,hb4⟩;have HO:=aa (bF ho B3.out.size);have B4:=bU B3 hb4;clear ho hb4 kz HR3;go_wp2_with fail;refine bodyPost_ret (v:=.tuple #[v,.int .i64 0]) (by simp[results,results46,go_sem]) rfl ⟨⟨_,rfl,HO.out⟩,B4.out⟩
 ·have z0:(0:Nat)<bj F:=by have:=HPB.out;have:=HPQ.out;omega
  have z1:(p:Nat)<bj F:=by have:=HPB.out;have:=HPQ.out;omega
  have HP2:=aa (HPA.out w2 HC2.out 0 p z0 z1);obtain⟨l1,l2,-⟩:=HPL.out 0 p z0 z1;have HL1:=aa (show(dA (bj F) (aj F l) 0 p).length≤4000 by have:=HPQ.out;omega);have HIX:=aa l2;have hq:=HQ.out;unfold Aj at hq;rw[if_pos rfl] at hq;obtain⟨PL,hPL⟩:=ag (dA (bj F) (aj F l) 0 p);rw[hPL] at HP2 HL1 HIX hq;have HR2:=aa (fun W a2 c2 (hb:Below w1.heap.size w1 W) (hc:IntsAt W a2 PL)=>HRE.out W PL a2 c2 hb HIX.out HL1.out hc);have HK2:=aa (fun W (hb:Below w1.heap.size w1 W)=>HKX.out W hb);obtain⟨RS,hRS⟩:=ag (bY (PL.map (dg (aj F l))));rw[hRS] at HR2 hq;cases hq;clear z0 z1 l1 l2 HPL hPL hRS HRE HIX HL1 HPA HKX;obtain⟨N,hN⟩:∃N:Int,((bj F:Nat):Int)=N:=⟨_,rfl⟩;obtain⟨LN,hLN⟩:=ag ((aj F l).length);have HNE:=aa hN;have HLN:=aa hLN;rw[hN,hLN] at ky HP2 HR2;clear hN hLN;go_wp2_with fail;refine HP2.out.mono ?_;rintro e w3 ⟨⟨a2,c2,rfl,hin⟩,hb3⟩;have HC3:=bU HC2 hb3;have B3:=bU B2 hb3;have kz:=HK2.out _ HC3.out;unfold WV.arr at kz;rw[HNE.out,HLN.out] at kz;have HR3:=aa (HR2.out w3 a2 c2 HC3.out hin);obtain⟨PN,hPN⟩:=ag PL.length;rw[hPN] at HR3;rw[hPN];clear hb3 hin HR2 HK2 HP2 ky hPN;go_wp2_with fail;refine HR3.out.mono ?_;rintro e w4 ⟨⟨v,rfl,ho⟩,hb4⟩;have HO:=aa (bF ho B3.out.size);have B4:=bU B3 hb4;clear ho hb4 kz HR3;go_wp2_with fail;refine bodyPost_ret (v:=.tuple #[v,.int .i64 0]) (by simp[results,results46,go_sem]) rfl ⟨⟨_,rfl,HO.out⟩,B4.out⟩
theorem uM (w:World):Calls prog 71 #[] w fun e w'=>(∃x:FV,e=.returned (x.val aH)∧FldAt w' x aH)∧Below w.heap.size w w':=by
 go_enter func71,ntmps71;go_wp2_with fail
 obtain⟨W,hW⟩:∃W,W=((((w.alloc (.cells #[.slice (some ⟨w.heap.size+1,0,none⟩) 3 3,.slice (some ⟨w.heap.size+1+1,0,none⟩) 2 2,.slice (some ⟨w.heap.size+1+1+1,0,none⟩) 1 1,.slice none 0 0] 27)).alloc
  (.cells #[.string ⟨#[97,115,104]⟩,.int .i64 0,.string ⟨#[111,97,107]⟩,.int .i64 1000,.string ⟨#[101,108,109]⟩,.int .i64 2000] 131)).alloc (.cells #[.string ⟨#[100,121,107,101]⟩,.string ⟨#[98,117,114,110]⟩] 9)).alloc (.cells #[.string ⟨#[99,114,111,102,116]⟩,.int .i64 0,.int .i64 0,.int .i64 2] 133)):=⟨_,rfl⟩
 rw[←hW]
 have hs:W.heap.size=w.heap.size+4:=by rw[hW];simp
 have hb:Below w.heap.size w W:=by rw[hW];exact(((aD).alloc (by simp) _).alloc (by simp;omega) _).alloc (by simp;omega) _
 have g0:W.heap[w.heap.size]?=some (.cells #[.slice (some ⟨w.heap.size+1,0,none⟩) 3 3,.slice (some ⟨w.heap.size+1+1,0,none⟩) 2 2,.slice (some ⟨w.heap.size+1+1+1,0,none⟩) 1 1,.slice none 0 0] 27 (0,0)):=by
  rw[hW,Below.heap_alloc _ _ _ (by simp only[World.size_alloc];omega),Below.heap_alloc _ _ _ (by simp only[World.size_alloc];omega),Below.heap_alloc _ _ _ (by simp)];exact heap_alloc_new _ _
 have g1:W.heap[w.heap.size+1]?=some (.cells #[.string ⟨#[97,115,104]⟩,.int .i64 0,.string ⟨#[111,97,107]⟩,.int .i64 1000,.string ⟨#[101,108,109]⟩,.int .i64 2000] 131 (0,0)):=by
  rw[hW,Below.heap_alloc _ _ _ (by simp only[World.size_alloc];omega),Below.heap_alloc _ _ _ (by simp)];exact af _ _ _ (by simp)
 have g2:W.heap[w.heap.size+1+1]?=some (.cells #[.string ⟨#[100,121,107,101]⟩,.string ⟨#[98,117,114,110]⟩] 9 (0,0)):=by
  rw[hW,Below.heap_alloc _ _ _ (by simp)];exact af _ _ _ (by simp)
 have g3:W.heap[w.heap.size+1+1+1]?=some (.cells #[.string ⟨#[99,114,111,102,116]⟩,.int .i64 0,.int .i64 0,.int .i64 2] 133 (0,0)):=by
  rw[hW];exact af _ _ _ (by simp)
 clear hW;refine bodyPost_ret (results_cell_row results71 _ _ _ _ _ _ _ rfl g0 underlying27 rfl (by kernel_rfl)) rfl ⟨⟨⟨some ⟨w.heap.size+1,0,none⟩,3,some ⟨w.heap.size+1+1,0,none⟩,2,some ⟨w.heap.size+1+1+1,0,none⟩,1,none,0⟩,rfl,?_⟩,hb⟩;refine⟨.inr ⟨_,0,rfl,by omega,fun i hi j hj=>?_⟩,.inr ⟨_,0,rfl,by omega,fun i hi j hj=>?_⟩,.inr ⟨_,0,rfl,by omega,fun i hi j hj=>?_⟩,.inl rfl,⟨Nat.le_refl _,(by decide:(3:Nat)≤9223372036854775807)⟩,⟨Nat.le_refl _,(by decide:(2:Nat)≤9223372036854775807)⟩,⟨Nat.le_refl _,(by decide:(1:Nat)≤9223372036854775807)⟩,⟨Nat.le_refl _,Nat.zero_le _⟩,?_,?_,?_,?_⟩
 ·rw[cell_of_row _ _ _ _ _ _ g1]
  have hi2:i<3:=hi
  rcases(by omega:i=0∨i=1∨i=2) with rfl|rfl|rfl<;>rcases(by omega:j=0∨j=1) with rfl|rfl<;>rfl
 ·rw[cell_of_row _ _ _ _ _ _ g2]
  have hi2:i<2:=hi
  obtain rfl:j=0:=by omega
  rcases(by omega:i=0∨i=1) with rfl|rfl<;>rfl
 ·rw[cell_of_row _ _ _ _ _ _ g3]
  have hi2:i<1:=hi
  obtain rfl:i=0:=by omega
  rcases(by omega:j=0∨j=1∨j=2∨j=3) with rfl|rfl|rfl|rfl<;>rfl
 ·decide
 ·intro s hs
  simp only[aH,List.mem_cons,List.not_mem_nil,or_false] at hs
  rcases hs with rfl|rfl|rfl<;>exact⟨by decide,by decide⟩
 ·intro s hs
  simp only[aH,List.mem_cons,List.not_mem_nil,or_false] at hs;subst hs;exact⟨⟨by decide,by decide⟩,⟨by decide,by decide⟩,by decide,by decide⟩
 ·intro s hs
  simp[aH] at hs
def heldV:List Value:=heldL.flatMap Rcd.cells
theorem fN {W:World} {g:Nat} (h:W.heap[g]?=some (.cells heldV.toArray 50 (0,0))):cI W (some ⟨g,0,none⟩) heldL:=by
 refine .inr ⟨g,0,rfl,lt_of_block h,fun i hi j hj=>?_⟩;rw[cell_of_row _ _ _ _ _ _ h];have hi2:i<3:=hi;have hj2:j<18:=hj
 rcases(by omega:i=0∨i=1∨i=2) with rfl|rfl|rfl <;>
 rcases(by omega:j=0∨j=1∨j=2∨j=3∨j=4∨j=5∨j=6∨j=7∨j=8∨j=9∨j=10∨j=11∨j=12∨j=13∨j=14∨j=15∨j=16∨j=17) with rfl|rfl|rfl|rfl|rfl|rfl|rfl|rfl|rfl|rfl|rfl|rfl|rfl|rfl|rfl|rfl|rfl|rfl<;>rfl
theorem yK (w:World):Calls prog 72 #[] w fun e w'=>(∃g,e=.returned (.slice (some ⟨g,0,none⟩) 3 3)∧w.heap.size≤g∧w'.heap[g]?=some (.cells heldV.toArray 50 (0,0)))∧Below w.heap.size w w':=by
 go_enter func72,ntmps72;go_wp2_with fail;refine bodyPost_ret (v:=.slice (some ⟨w.heap.size,0,none⟩) 3 3) (by simp[results,results72,go_sem]) rfl ⟨⟨_,rfl,Nat.le_refl _,?_⟩,aD⟩;exact heap_alloc_new _ _
theorem tD {l m:List Int} (hp:m.Perm l) (hs:m.Pairwise (·≤·)):jB l=m :=
 List.Perm.eq_of_pairwise (le:=fun a b=>a≤b) (fun _ _ _ _ h1 h2=>Int.le_antisymm h1 h2) (yX l) hs ((List.mergeSort_perm _ _).trans hp.symm)
theorem pQ:cX aH heldL:=(fM _ _).1 (by rw[ux])
theorem uo:cX aH heldN:=(fM _ _).1 (by rw[om.2])
theorem yH:xz aH heldL 1 1 true=([1,2,3],0):=by
 have m:aW aH heldL (bq (bD aH 1 1))=0:=cx.2 ⟨pQ,by decide +kernel,oo⟩;unfold xz;rw[if_neg (by rw[m];simp)]
 have hp:eX aH 1 1=5:=by decide +kernel
 have h1:=(oK pQ oo (a:=0) (b:=5) (by decide +kernel) (by decide +kernel)).1;have h2:=o9.1
 have h3:dA (bj aH) (aj aH heldL) 0 5=[15,17,19]:=by
  have:=h1.symm.trans h2;exact(Prod.mk.inj this).1
 unfold Aj;rw[hp,if_pos rfl,h3];unfold bY;rw[show jr (([15,17,19]:List Int).map (dg (aj aH heldL)))=[1,2,3] by decide +kernel,tD (List.Perm.refl _) (by simp)]
 decide +kernel
theorem pF:eP aH heldM=([1,2,4],true,0):=by
 unfold eP;rw[if_neg (by rw[om.1];simp),if_neg (by rw[oW.1];simp),sf.1];unfold bY;rw[show jr (([16,21,18]:List Int).map (dg (aj aH heldM)))=[1,4,2] by decide +kernel,tD (m:=[1,2,4]) (by decide) (by simp)]
 decide +kernel
theorem xK:pM aH heldN=([4],0):=by
 have m:aW aH heldN 0=0:=cx.2 ⟨uo,rfl,oW.2⟩;unfold pM;rw[if_neg (by rw[m];simp)]
 have e:heldN.filter (fun r=>fA aH heldN r.id)=[⟨4,0,bytes [106,111,110,101,115],1700,0,⟨1,0,0,1,0,250,40,crs0⟩⟩]:=by
  unfold heldN heldL;simp only[List.cons_append,List.nil_append];rw[List.filter_cons,if_neg (by have:=lC.1;unfold heldN heldL at this;simp only[List.cons_append,List.nil_append] at this;rw[this];simp)];rw[List.filter_cons,if_neg (by have:=lC.2.1;unfold heldN heldL at this;simp only[List.cons_append,List.nil_append] at this;rw[this];simp)];rw[List.filter_cons,if_neg (by have:=lC.2.2;unfold heldN heldL at this;simp only[List.cons_append,List.nil_append] at this;rw[this];simp)];rw[List.filter_cons,if_pos (by have:=zG;unfold heldN heldL at this;simp only[List.cons_append,List.nil_append] at this;exact this)]
  rfl
 rw[e]
 rfl
def LS (l:List Int) (n:Nat) (err:Int) (B:Nat) (e:Ending) (w':World):Prop:=∃q c cur,e=.returned (.tuple #[.slice (some ⟨q,0,none⟩) n c,.int .i64 err])∧B≤q∧Hid (w'.heap[q]?=some (.cells cur 3 (0,0)))∧Hid (cur.toList.take n=ay l)
def LB (l:List Int) (n:Nat) (b:Bool) (err:Int) (B:Nat) (e:Ending) (w':World):Prop:=∃q c cur,e=.returned (.tuple #[.slice (some ⟨q,0,none⟩) n c,.bool b,.int .i64 err])∧B≤q∧Hid (w'.heap[q]?=some (.cells cur 3 (0,0)))∧Hid (cur.toList.take n=ay l)
theorem AR {l:List Int} {n:Nat} {err:Int} {B:Nat} {e:Ending} {w':World} (h:iN l err B e w') (hn:l.length=n) (h0:0<n):LS l n err B e w':=by
 subst hn;obtain⟨v,rfl,-,⟨_,z⟩|⟨q,c,cur,rfl,hq,hh,_,_,_,htk⟩⟩:=h
 ·omega
 ·exact⟨q,c,cur,rfl,hq,aa hh,aa (by rw[Nat.mul_one] at htk;exact htk)⟩
theorem Bw {l:List Int} {n:Nat} {b:Bool} {err:Int} {B:Nat} {e:Ending} {w':World} (h:fj l b err B e w') (hn:l.length=n) (h0:0<n):LB l n b err B e w':=by
 subst hn;obtain⟨v,rfl,-,⟨_,z⟩|⟨q,c,cur,rfl,hq,hh,_,_,_,htk⟩⟩:=h
 ·omega
 ·exact⟨q,c,cur,rfl,hq,aa hh,aa (by rw[Nat.mul_one] at htk;exact htk)⟩
theorem yM {W:World} {q n:Nat} {cur:Array Value} {l:List Int} (h:W.heap[q]?=some (.cells cur 3 (0,0))) (ht:cur.toList.take n=ay l) (hn:l.length=n):IntsAt W (some ⟨q,0,none⟩) l:=by
 refine .inr ⟨q,0,rfl,lt_of_block h,fun i hi=>?_⟩;rw[cell_of_row _ _ _ _ _ _ h,Nat.zero_add]
 have:(cur.toList.take n)[i]?=some (.int .i64 l[i]):=by rw[ht];simp[ay,hi]
 rw[List.getElem?_take_of_lt (by omega)] at this;simpa using this
theorem ed:∀r∈heldL,(0≤r.call.kind∧r.call.kind≤255)∧r.deed.size≤9223372036854775807:=by
 intro r hr;simp only[heldL,List.mem_cons,List.not_mem_nil,or_false] at hr
 rcases hr with rfl|rfl|rfl<;>exact⟨by decide,by decide⟩
theorem nP {q:Rcd} (hq:(0≤q.call.kind∧q.call.kind≤255)∧q.deed.size≤9223372036854775807):∀r∈heldL++[q],(0≤r.call.kind∧r.call.kind≤255)∧r.deed.size≤9223372036854775807:=by
 intro r hr
 rcases List.mem_append.1 hr with h|h
 ·exact ed r h
 ·obtain rfl:=List.mem_singleton.1 h
  exact hq
section
variable (W:World) (x:FV) (F:Fld) (hF:F=aH) (l:List Rcd) (hl:l=heldL) (ar:Option Addr) (h:FldAt W x F) (hr:cI W ar l)
include hF hl h hr
theorem yt:Calls prog 24 #[x.val F,.slice ar 3 3,.agg #[.int .i64 0,.int .i64 1]] W fun e w'=>e=.returned (.tuple #[.int .i64 235,.int .i64 265,.int .i64 0])∧Below W.heap.size W w':=by
 have:=ub W x F ar 3 l 0 1 h hr (by rw[hl];decide) (by rw[hl];exact ed);rw[hF,hl] at this;rw[hF];rw[sD] at this;exact this
theorem Bf:Calls prog 46 #[x.val F,.slice ar 3 3,.agg #[.int .i64 1,.int .i64 1],.bool true] W fun e w'=>LS [1,2,3] 3 0 W.heap.size e w'∧Below W.heap.size W w':=by
 have:=zM W x F ar 3 l 1 1 true h hr (by rw[hl];decide) (by rw[hl];exact ed);rw[hF,hl] at this;rw[hF];rw[yH] at this
 exact this.mono fun e w' ⟨a,b⟩=>⟨AR a rfl (by omega),b⟩
theorem yN:Calls prog 26 #[x.val F,.slice ar 3 3,.agg #[.int .i64 0,.int .i64 0],.agg #[.int .i64 1,.int .i64 1]] W fun e w'=>e=.returned (.tuple #[.int .i64 345,.int .i64 355,.int .i64 0])∧Below W.heap.size W w':=by
 have:=uE W x F ar 3 l 0 0 1 1 h hr (by rw[hl];decide) (by rw[hl];exact ed);rw[hF,hl] at this;rw[hF];rw[vV] at this;exact this
theorem yR:Calls prog 30 #[x.val F,.slice ar 3 3,.agg #[.int .i64 0,.int .i64 1,.int .i64 265,.int .i64 300]] W fun e w'=>e=.returned (.tuple #[.int .u8 1,.int .i64 0])∧Below W.heap.size W w':=by
 have:=vJ W x F ar 3 l 0 1 265 300 h hr (by rw[hl];decide) (by rw[hl];exact ed);rw[hF,hl] at this;rw[hF];rw[uZ] at this;exact this
theorem zR:Calls prog 57 #[x.val F,.slice ar 3 3,.agg #[.int .i64 0,.int .i64 1,.int .i64 200,.int .i64 300]] W fun e w'=>e=.returned (.tuple #[.int .i64 35,.int .i64 30,.int .i64 35,.int .i64 0])∧Below W.heap.size W w':=by
 have:=uS W x F ar 3 l 0 1 200 300 h hr (by rw[hl];decide) (by rw[hl];exact ed);rw[hF,hl] at this;rw[hF];rw[uT] at this;exact this
theorem AB:Calls prog 41 #[x.val F,.slice ar 3 3,.int .i64 0,.int .i64 1] W fun e w'=>e=.returned (.tuple #[.int .i64 265,.int .i64 535,.int .i64 0])∧Below W.heap.size W w':=by
 have:=yC W x F ar 3 l 0 1 h hr (by rw[hl];decide) (by rw[hl];exact ed);rw[hF,hl] at this;rw[hF];rw[ya] at this;exact this
end
theorem sK (W:World) (x:FV) (F:Fld) (hF:F=aH) (ar:Option Addr) (c:Nat) (h:FldAt W x F) (hr:cI W ar heldM):Calls prog 29 #[x.val F,.slice ar 4 c] W fun e w'=>LB [1,2,4] 3 true 0 W.heap.size e w'∧Below W.heap.size W w':=by
 have:=pk W x F ar c heldM h hr (by decide) (nP ⟨by decide,by decide⟩);rw[hF] at this ⊢;rw[pF] at this
 exact this.mono fun e w' ⟨a,b⟩=>⟨Bw a rfl (by omega),b⟩
theorem Ac (W:World) (x:FV) (F:Fld) (hF:F=aH) (ar:Option Addr) (c:Nat) (h:FldAt W x F) (hr:cI W ar heldN):Calls prog 37 #[x.val F,.slice ar 4 c] W fun e w'=>LS [4] 1 0 W.heap.size e w'∧Below W.heap.size W w':=by
 have:=wS W x F ar c heldN h hr (by decide) (nP ⟨by decide,by decide⟩);rw[hF] at this ⊢;rw[xK] at this
 exact this.mono fun e w' ⟨a,b⟩=>⟨AR a rfl (by omega),b⟩
theorem wU (w:World) (a0:Option Addr) (c0:Nat) (l0:List Int) (a1:Option Addr) (c1:Nat) (l1:List Int) (h0:IntsAt w a0 l0) (h1:IntsAt w a1 l1) (hl0:l0.length≤9223372036854775807) (hl1:l1.length≤9223372036854775807) :
 Calls prog 40 #[.slice a0 l0.length c0,.slice a1 l1.length c1] w fun e w'=>e=.returned (.bool (decide (l0=l1)))∧Below w.heap.size w w':=by
 have H:=aa (ry w a0 c0 l0 a1 c1 l1 h0 h1 hl0 hl1);obtain⟨r,hr⟩:=ag (decide (l0=l1));rw[hr] at H ⊢;obtain⟨n0,hn0⟩:=ag l0.length;obtain⟨n1,hn1⟩:=ag l1.length;rw[hn0,hn1] at H ⊢;clear hr hn0 hn1 h0 h1 hl0 hl1;go_enter func40,ntmps40;go_wp2_with fail;refine H.out.mono ?_;rintro e w1 ⟨rfl,hb⟩;go_wp2_with fail;go_ret;exact⟨rfl,hb⟩
theorem lj (W:World) (q c:Nat) (cur:Array Value) (l:List Int) (n:Nat) (h:W.heap[q]?=some (.cells cur 3 (0,0))) (ht:cur.toList.take n=ay l) (hn:l.length=n) (hl:n≤1000) :
 Calls prog 40 #[.slice (some ⟨q,0,none⟩) n c,.slice (some ⟨W.heap.size,0,none⟩) n n] (W.alloc (.cells (ay l).toArray 3)) fun e w'=>e=.returned (.bool true)∧Below W.heap.size W w':=by
 subst hn;have H:=wU (W.alloc (.cells (ay l).toArray 3)) (some ⟨q,0,none⟩) c l (some ⟨W.heap.size,0,none⟩) l.length l ((yM h ht rfl).alloc _) (yY W l) (by omega) (by omega);rw[decide_eq_true rfl] at H
 refine H.mono fun e w' ⟨h1,h2⟩=>⟨h1,?_⟩
 exact(aD).trans (h2.mono (by simp))
theorem yZ:∀(l:List Rcd) (i:Nat) (hi:i<l.length) (j:Nat),j<18→(l.flatMap Rcd.cells)[i*18+j]?=(Rcd.cells l[i])[j]?
 | r::l,0,_,j,hj=>by
   rw[List.flatMap_cons,Nat.zero_mul,Nat.zero_add,List.getElem?_append_left (by show j<18;exact hj)];rfl
 | r::l,i+1,hi,j,hj=>by
   rw[List.flatMap_cons,List.getElem?_append_right (by show 18≤_;omega)];have:=yZ l i (by simpa using hi) j hj;rw[show(i+1)*18+j-(Rcd.cells r).length=i*18+j by show(i+1)*18+j-18=_;omega,this]
   rfl
theorem n9 {W:World} {g:Nat} {cur:Array Value} {l:List Rcd} (h:W.heap[g]?=some (.cells cur 50 (0,0))) (hc:cur.toList.take (l.length*18)=l.flatMap Rcd.cells):cI W (some ⟨g,0,none⟩) l:=by
 refine .inr ⟨g,0,rfl,lt_of_block h,fun i hi j hj=>?_⟩;rw[cell_of_row _ _ _ _ _ _ h,Nat.zero_add,←yZ l i hi j hj,←hc,List.getElem?_take_of_lt (by have:=Nat.mul_le_mul_right 18 (show i+1≤l.length by omega);omega)];simp
theorem xO {W:World} {g:Nat} {B:Nat} (hb:B≤g) (h:W.heap[g]?=some (.cells heldV.toArray 50 (0,0))):W.ownsRow B 50 18 (.slice (some ⟨g,0,none⟩) 3 3) 3 heldV :=
 ⟨rfl,.inr ⟨g,3,heldV.toArray,rfl,hb,h,Nat.le_refl _,by unfold maxLen;omega,rfl,rfl⟩⟩
def jones:Rcd:=⟨4,0,bytes [106,111,110,101,115],1700,0,⟨1,0,0,1,0,100,0,crs0⟩⟩
theorem zV:((heldV++jones.cells).set 64 (.int .i64 250)).set 65 (.int .i64 40)=heldN.flatMap Rcd.cells:=by rfl
theorem yL:(Tryz.prog.info? 50).map (fun i=>(i.zero,i.size,i.bytes))=some (some (.agg #[.int .i64 0,.int .i64 0,.string ByteArray.empty,.int .i64 0,.int .i64 0,.int .u8 0,.int .i64 0,.int .i64 0,.int .i64 0,.int .i64 0,.int .i64 0,.int .i64 0,.int .i64 0,.int .i64 0,.int .i64 0,.int .i64 0,.int .i64 0,.int .i64 0]),18,152):=by kernel_rfl
theorem wG (r:Rcd):∀u∈r.cells,u.oneCell'=true:=by
 intro u hu;simp only[Rcd.cells,Rcd.vals,List.mem_cons,List.not_mem_nil,or_false] at hu
 rcases hu with rfl|rfl|rfl|rfl|rfl|rfl|rfl|rfl|rfl|rfl|rfl|rfl|rfl|rfl|rfl|rfl|rfl|rfl<;>rfl
theorem zn {cur:Array Value} {n:Nat} {l:List Value} (h:cur.toList.take n=l) {i:Nat} {v:Value} (hi:l[i]?=some v):cur[i]?=some v:=by
 rw[←h] at hi
 have hlt:i<n:=by
  have:=(List.getElem?_eq_some_iff.1 hi).1;rw[List.length_take] at this;omega
 rw[List.getElem?_take_of_lt hlt] at hi;simpa using hi
theorem Am {cur:Array Value} {n i j:Nat} {u v:Value}:((cur.setIfInBounds i u).setIfInBounds j v).toList.take n=((cur.toList.take n).set i u).set j v:=by
 rw[Array.toList_setIfInBounds,Array.toList_setIfInBounds,List.take_set,List.take_set]
structure SvJ (W:World) (x:FV) (F:Fld) (B C:Nat):Prop where
 box:W.heap[B]?=some (.cells (x.arr F) 27 (0,0))
 cor:W.heap[C]?=some (.cells #[.int .i64 0,.int .i64 1] 30 (0,0))
 fld:FldAt W x F
theorem SvJ.next {W W':World} {x:FV} {F:Fld} {B C:Nat} (h:SvJ W x F B C) (hb:Below W.heap.size W W'):SvJ W' x F B C :=
 ⟨ac hb (lt_of_block h.box) h.box,ac hb (lt_of_block h.cor) h.cor,h.fld.below hb⟩
theorem Av (w:World):Calls prog 23 #[] w fun e w'=>e=.returned (.bool true)∧Below w.heap.size w w':=by
 go_enter func23,ntmps23;go_wp2_with fail;refine(uM _).mono ?_;rintro e w0 ⟨⟨x,rfl,hF⟩,hb0⟩;obtain⟨F,HFE⟩:∃F,Hid (F=aH):=⟨aH,aa rfl⟩;rw[←HFE.out] at hF ⊢;have B0:=aa hb0;have F0:=aa hF;clear hF hb0;unfold FV.val FV.arr;go_upto_region 2 with fail;refine mj ?_;intro W1 hW1
 have hb1:Below w0.heap.size w0 W1:=by rw[hW1];exact aD
 have XB:=(show W1.heap[w0.heap.size]?=some (.cells (x.arr F) 27 (0,0)) by rw[hW1];exact heap_alloc_new _ _);have BBW:=bU B0 hb1;have BB1:=aa (Below.refl W1.heap.size W1);have F1:=aa (F0.out.below hb1);obtain⟨B,hB⟩:=ag w0.heap.size;rw[hB] at XB ⊢;have X1:=aa XB;clear hW1 hb1 XB hB B0 F0;go_wp2_with fail;refine(yK _).mono ?_;rintro e W2 ⟨⟨g,rfl,hg,hblk⟩,hb2⟩;have BB2:=bU BB1 hb2;have F2:=aa (F1.out.below hb2);have X2:=aa (ac hb2 (lt_of_block X1.out) X1.out);have HG:=aa hblk;have HGE:=aa (show W1.heap.size≤g from hg);have HBG:=aa (Nat.lt_of_lt_of_le (lt_of_block X1.out) hg);clear hg hblk hb2 BB1 X1;go_upto_region 4 with fail;refine mj ?_;intro W3 hW3
 have hb3:Below W2.heap.size W2 W3:=by rw[hW3];exact aD
 have XC:=(show W3.heap[W2.heap.size]?=some (.cells #[.int .i64 0,.int .i64 1] 30 (0,0)) by rw[hW3];exact heap_alloc_new _ _);have BB3:=bU BB2 hb3;have HG3:=aa (ac hb3 (lt_of_block HG.out) HG.out);have J3:=aa (SvJ.mk (C:=W2.heap.size) (ac hb3 (lt_of_block X2.out) X2.out) XC (F2.out.below hb3));obtain⟨C,hC⟩:=ag W2.heap.size;have HGC:=aa (show g<W2.heap.size from lt_of_block HG.out);rw[hC] at J3 HGC ⊢;clear hW3 hb3 XC hC BB2 F2 X2 HG;have k0:=ak J3.out.box;have k1:=ak J3.out.cor;unfold FV.arr at k0;have HC:=aa (yt W3 x F HFE.out heldL rfl (some ⟨g,0,none⟩) J3.out.fld (fN HG3.out))
 try unfold FV.val FV.arr at HC
 go_wp2_with fail;refine HC.out.mono ?_;rintro e W4 ⟨rfl,hb⟩;have BB4:=bU BB3 hb;have J4:=aa (J3.out.next hb);have HG4:=aa (ac hb (lt_of_block HG3.out) HG3.out);clear hb k0 k1 HC BB3 J3 HG3;have HGL:=lt_of_block HG4.out;have k0:=ak J4.out.box;have k1:=ak J4.out.cor;unfold FV.arr at k0;have HC:=aa (Bf W4 x F HFE.out heldL rfl (some ⟨g,0,none⟩) J4.out.fld (fN HG4.out))
 try unfold FV.val FV.arr at HC
 go_wp2_with fail;refine HC.out.mono ?_;rintro e W5 ⟨⟨q1,c1,cur1,rfl,hq1,Lx,T1⟩,hb⟩;have BB5:=bU BB4 hb;have J5:=aa (J4.out.next hb);have HG5:=aa (ac hb (lt_of_block HG4.out) HG4.out);have LA5:=Lx;clear hb k0 k1 HC BB4 J4 HG4;have HQ1:=aa (Nat.lt_of_lt_of_le HGL hq1);clear HGL hq1;have k0:=ak J5.out.box;have k1:=ak J5.out.cor;unfold FV.arr at k0;have HC:=aa (yN W5 x F HFE.out heldL rfl (some ⟨g,0,none⟩) J5.out.fld (fN HG5.out))
 try unfold FV.val FV.arr at HC
 go_wp2_with fail;refine HC.out.mono ?_;rintro e W6 ⟨rfl,hb⟩;have BB6:=bU BB5 hb;have J6:=aa (J5.out.next hb);have HG6:=aa (ac hb (lt_of_block HG5.out) HG5.out);have LA6:=aa (ac hb (lt_of_block LA5.out) LA5.out);clear hb k0 k1 HC BB5 J5 HG5 LA5;have k0:=ak J6.out.box;have k1:=ak J6.out.cor;unfold FV.arr at k0;have HC:=aa (yR W6 x F HFE.out heldL rfl (some ⟨g,0,none⟩) J6.out.fld (fN HG6.out))
 try unfold FV.val FV.arr at HC
 go_wp2_with fail;refine HC.out.mono ?_;rintro e W7 ⟨rfl,hb⟩;have BB7:=bU BB6 hb;have J7:=aa (J6.out.next hb);have HG7:=aa (ac hb (lt_of_block HG6.out) HG6.out);have LA7:=aa (ac hb (lt_of_block LA6.out) LA6.out);clear hb k0 k1 HC BB6 J6 HG6 LA6;have k0:=ak J7.out.box;have k1:=ak J7.out.cor;unfold FV.arr at k0;have HC:=aa (zR W7 x F HFE.out heldL rfl (some ⟨g,0,none⟩) J7.out.fld (fN HG7.out))
 try unfold FV.val FV.arr at HC
 go_wp2_with fail;refine HC.out.mono ?_;rintro e W8 ⟨rfl,hb⟩;have BB8:=bU BB7 hb;have J8:=aa (J7.out.next hb);have HG8:=aa (ac hb (lt_of_block HG7.out) HG7.out);have LA8:=aa (ac hb (lt_of_block LA7.out) LA7.out);clear hb k0 k1 HC BB7 J7 HG7 LA7;have k0:=ak J8.out.box;have k1:=ak J8.out.cor;unfold FV.arr at k0;have HC:=aa (AB W8 x F HFE.out heldL rfl (some ⟨g,0,none⟩) J8.out.fld (fN HG8.out))
 try unfold FV.val FV.arr at HC
 go_wp2_with fail;refine HC.out.mono ?_;rintro e W9 ⟨rfl,hb⟩;have BB9:=bU BB8 hb;have J9:=aa (J8.out.next hb);have HG9:=aa (ac hb (lt_of_block HG8.out) HG8.out);have LA9:=aa (ac hb (lt_of_block LA8.out) LA8.out);clear hb k0 k1 HC BB8 J8 HG8 LA8;go_upto_region 10 with fail;obtain⟨v',W10,hrun,ho,hb,hst⟩:=ij (w:=W9.alloc (.cells #[.int .i64 4,.int .i64 0,.string ⟨#[106,111,110,101,115]⟩,.int .i64 1700,.int .i64 0,.int .u8 1,.int .i64 0,.int .i64 0,.int .i64 1,.int .i64 0,.int .i64 100,.int .i64 0,.int .i64 0,.int .i64 0,.int .i64 0,.int .i64 0,.int .i64 0,.int .i64 0] 50)) (base:=W1.heap.size) underlying28 yL rfl (by decide) (by decide) (World.ownsRow.alloc (xO HGE.out HG9.out) _) (b:=W9.heap.size) (news:=jones.cells) rfl (heap_alloc_new _ _) (wG jones) (by omega) (by have:=BB9.out.size;simp;omega) 28;have HRUN:=aa hrun;obtain⟨-,⟨_,z⟩|⟨g2,cp,cur,rfl,hg2,hblk2,_,_,_,htk⟩⟩:=ho
 ·exact absurd z (by decide)
 have hb0:Below W1.heap.size W9 W10:=((Below.refl _ _).alloc BB9.out.size _).trans hb;have BB10:=aa (BB9.out.trans hb0)
 have hst2:∀q,q<W9.heap.size→q≠g→W10.heap[q]?=W9.heap[q]?:=fun q hq hne=>(hst q (by simp;omega) (by intro e;exact hne (Option.some.inj e).symm)).trans (Below.heap_alloc _ _ _ hq)
 have LA10:=aa ((hst2 q1 (lt_of_block LA9.out) (by have:=HQ1.out;omega)).trans LA9.out);have J10:=aa (SvJ.mk ((hst2 B (lt_of_block J9.out.box) (by have:=HBG.out;omega)).trans J9.out.box) ((hst2 C (lt_of_block J9.out.cor) (by have:=HGC.out;omega)).trans J9.out.cor) (F1.out.below BB10.out));have HM10:=aa hblk2;have HTK:=aa htk;have HG2:=aa hg2;clear hrun hb hst hst2 hb0 hg2 hblk2 htk HG9 J9 LA9 BB9 HGE HQ1 HBG HGC;go_upto_region 11 with (at_builtin;refine aN rfl (s:=.tmp 78) (x:=.tmp 81) (t:=28) rfl rfl rfl HRUN.out ?_);clear HRUN;have k0:=ak J10.out.box;have k1:=ak J10.out.cor;unfold FV.arr at k0;have HC:=aa (sK W10 x F HFE.out (some ⟨g2,0,none⟩) cp J10.out.fld (n9 HM10.out (by rw[show heldM.flatMap Rcd.cells=heldV++jones.cells from rfl];exact HTK.out)))
 try unfold FV.val FV.arr at HC
 go_wp2_with fail;refine HC.out.mono ?_;rintro e W11 ⟨⟨q2,c2,cur2,rfl,hq2,Lx,T2⟩,hb⟩;have BB11:=bU BB10 hb;have J11:=aa (J10.out.next hb);have LA11:=aa (ac hb (lt_of_block LA10.out) LA10.out);have HM11:=aa (ac hb (lt_of_block HM10.out) HM10.out);have LC11:=Lx;clear hb k0 k1 HC BB10 J10 LA10 HM10;go_upto_region 12 with fail
 have c0:W11.cell? ⟨g2,64,none⟩=some (.int .i64 100):=by
  have z:=ak HM11.out 64;rw[z];exact zn HTK.out (i:=64) rfl
 have f0:W11.frozen? ⟨g2,64,none⟩=false:=frozen_of_row _ _ _ _ _ HM11.out;go_upto_region 13 with fail;obtain⟨W12,hW⟩:∃W,W=W11.setCell ⟨g2,64,none⟩ (.int .i64 250):=⟨_,rfl⟩;rw[←hW];have HM12:=aa (show W12.heap[g2]?=some (.cells (cur.setIfInBounds 64 (.int .i64 250)) 50 (0,0)) by rw[hW];exact Go.heap_setCell_same _ _ _ _ _ _ HM11.out)
 have ho:∀(q:Nat) (cs:Array Value) (t:TypeId),W11.heap[q]?=some (Obj.cells cs t (0,0))→t≠50→W12.heap[q]?=some (Obj.cells cs t (0,0)):=fun q cs t h ht=>by
  rw[hW,heap_setCell_other _ _ _ _ (by rintro rfl;have e:=h.symm.trans HM11.out;simp at e;exact ht e.2)];exact h
 have LA12:=aa (ho _ _ _ LA11.out (by decide));have LC12:=aa (ho _ _ _ LC11.out (by decide))
 have hs:W12.heap.size=W11.heap.size:=by rw[hW];simp
 have BB12:=aa (show Below W1.heap.size W1 W12 by rw[hW];exact BB11.out.setCell (by show W1.heap.size≤g2;exact HG2.out) _);have J12:=aa (SvJ.mk (ho _ _ _ J11.out.box (by decide)) (ho _ _ _ J11.out.cor (by decide)) (F1.out.below BB12.out));clear c0 f0 hW ho hs HM11 LA11 LC11 BB11 J11
 have c0:W12.cell? ⟨g2,65,none⟩=some (.int .i64 0):=by
  have z:=ak HM12.out 65;rw[z,Array.getElem?_setIfInBounds_ne (by omega)];exact zn HTK.out (i:=65) rfl
 have f0:W12.frozen? ⟨g2,65,none⟩=false:=frozen_of_row _ _ _ _ _ HM12.out;go_upto_region 14 with fail;obtain⟨W13,hW⟩:∃W,W=W12.setCell ⟨g2,65,none⟩ (.int .i64 40):=⟨_,rfl⟩;rw[←hW];have HM13:=aa (show W13.heap[g2]?=some (.cells ((cur.setIfInBounds 64 (.int .i64 250)).setIfInBounds 65 (.int .i64 40)) 50 (0,0)) by rw[hW];exact Go.heap_setCell_same _ _ _ _ _ _ HM12.out)
 have ho:∀(q:Nat) (cs:Array Value) (t:TypeId),W12.heap[q]?=some (Obj.cells cs t (0,0))→t≠50→W13.heap[q]?=some (Obj.cells cs t (0,0)):=fun q cs t h ht=>by
  rw[hW,heap_setCell_other _ _ _ _ (by rintro rfl;have e:=h.symm.trans HM12.out;simp at e;exact ht e.2)];exact h
 have LA13:=aa (ho _ _ _ LA12.out (by decide));have LC13:=aa (ho _ _ _ LC12.out (by decide))
 have hs:W13.heap.size=W12.heap.size:=by rw[hW];simp
 have BB13:=aa (show Below W1.heap.size W1 W13 by rw[hW];exact BB12.out.setCell (by show W1.heap.size≤g2;exact HG2.out) _);have J13:=aa (SvJ.mk (ho _ _ _ J12.out.box (by decide)) (ho _ _ _ J12.out.cor (by decide)) (F1.out.below BB13.out));clear c0 f0 hW ho hs HM12 LA12 LC12 BB12 J12;have k0:=ak J13.out.box;have k1:=ak J13.out.cor;unfold FV.arr at k0;have HC:=aa (Ac W13 x F HFE.out (some ⟨g2,0,none⟩) cp J13.out.fld (n9 HM13.out (by rw[←zV,←HTK.out];exact Am)))
 try unfold FV.val FV.arr at HC
 go_wp2_with fail;refine HC.out.mono ?_;rintro e W14 ⟨⟨q3,c3,cur3,rfl,hq3,Lx,T3⟩,hb⟩;have BB14:=bU BB13 hb;have J14:=aa (J13.out.next hb);have LA14:=aa (ac hb (lt_of_block LA13.out) LA13.out);have HM14:=aa (ac hb (lt_of_block HM13.out) HM13.out);have LC14:=aa (ac hb (lt_of_block LC13.out) LC13.out);have LI14:=Lx;clear hb k0 k1 HC BB13 J13 LA13 HM13 LC13;go_upto_region 18 with fail;have HS1:=aa (lj W14 q1 c1 cur1 [1,2,3] 3 LA14.out T1.out rfl (by omega));unfold ay at HS1;simp only[List.map] at HS1;go_wp2_with fail;refine HS1.out.mono ?_;rintro e W15 ⟨rfl,hb⟩;have BB15:=bU BB14 hb;have LC15:=aa (ac hb (lt_of_block LC14.out) LC14.out);have LI15:=aa (ac hb (lt_of_block LI14.out) LI14.out);clear hb HS1 BB14 LC14 LI14 LA14 J14 HM14;have HS1:=aa (lj W15 q2 c2 cur2 [1,2,4] 3 LC15.out T2.out rfl (by omega));unfold ay at HS1;simp only[List.map] at HS1;go_wp2_with fail;refine HS1.out.mono ?_;rintro e W16 ⟨rfl,hb⟩;have BB16:=bU BB15 hb;have LI16:=aa (ac hb (lt_of_block LI15.out) LI15.out);clear hb HS1 BB15 LC15 LI15;have HS1:=aa (lj W16 q3 c3 cur3 [4] 1 LI16.out T3.out rfl (by omega));unfold ay at HS1;simp only[List.map] at HS1;go_wp2_with fail;refine HS1.out.mono ?_;rintro e W17 ⟨rfl,hb⟩;have BB17:=bU BB16 hb;clear hb HS1;go_wp2_with fail;go_ret;exact⟨rfl,bB BBW.out BB17.out⟩
end Go.Proofs.YtkhemfnlflbniaaGreatDoor
