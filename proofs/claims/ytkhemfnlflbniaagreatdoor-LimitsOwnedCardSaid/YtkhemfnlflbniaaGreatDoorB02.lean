/- Merged text 2 of the base: Wh, PureE, PureF, PlA, PlB, PlC, PlD. No conditions beyond those stated. -/
import Derived.Test.YtkhemfnlflbniaaGreatDoorB01
import Derived.Deep.LoopGhost
import Derived.Deep.WholeRow
import Derived.Deep.OwnRows
import Derived.StillTailTactics
set_option maxRecDepth 100000
set_option maxHeartbeats 2000000
namespace Go.Proofs.YtkhemfnlflbniaaGreatDoor
open Go Go.RowKit Go.Shelf Tryz
attribute [local go_sem] Oper.semAt_some
theorem Bg:(Tryz.prog.info? 59).map (fun i=>(i.zero,i.size,i.bytes))=some (some (.slice none 0 0),1,24):=by kernel_rfl
theorem lR:(Tryz.prog.info? 65).map (fun i=>(i.zero,i.size,i.bytes))=some (some (.agg #[.int .i64 0,.int .i64 0,.int .i64 0,.int .i64 0]),4,32):=by kernel_rfl
theorem pD (w:World) (bn R:Nat) (a:Option Addr) (cap:Nat) (bs:List Bd) (h:List Int) (ai:Nat) (tf:FuncId) (caps:Array Value) (t:Nat→Bool) (hR0:1≤R) (hR1:R≤128) (hl:bs.length≤4000)
 (hB:BoundsAt w a bs) (hv:∀b∈bs,b.valid R) (hn:w.heap[bn]?=some (.cells (lG R (.slice a bs.length cap) h) 265 (0,0))) (hh:h.length=128) (hlow:LowBy 520000 h) (hpot:yD h bs) (ha:ai<R)
 (hT:eJ prog tf caps (·<w.heap.size) w bs.length t) (eg:Enters prog tf) :
 Calls prog 191 #[.pointer (some ⟨bn,0,none⟩),.int .i64 ai,.func (.func tf) #[] caps] w fun e w'=>e=.returned (.agg (bt (dW R h (bL bs (aq t bs.length)) ai)))∧Below w.heap.size w w':=by
 have i94:Hid ((Tryz.prog.info? 189).map (·.size)=some 128):=aa (by kernel_rfl);have H:=aa hB;have HV:=aa hv;have HN:=aa hn;have HH:=aa hh;have HL:=aa hlow;have HP:=aa hpot;have HT:=aa hT;have EG:=aa eg;clear hB hv hn hh hlow hpot hT eg;refine(callsIn_wide (n:=8)).1 (callsIn_of_wp_marks func191 rfl trivial (wpIn_wide.2 ?_) rfl);simp only[ntmps191,List.size_toArray,List.length_cons,List.length_nil,Nat.reduceAdd,Nat.reduceSub,Array.replicate_succ,Array.replicate_zero,List.push_toArray,List.append_toArray,List.nil_append,List.cons_append];go_wp2_with fail;refine(ke _ _).mono ?_;rintro e w1 ⟨rfl,hb1⟩;have hbB:=ac hb1 (by simp) (heap_alloc_new w (.cells zeroCells189 189));rw[xq] at hbB;have HBB:=aa hbB;have B1:=aa (((Below.refl w.heap.size w).alloc (Nat.le_refl _) (.cells zeroCells189 189)).trans (hb1.mono (by simp)));have hs1:w.heap.size<w1.heap.size:=lt_of_block hbB;have hN1:=ac B1.out (lt_of_block HN.out) HN.out;have e0:w1.cell? ⟨bn,0,none⟩=some (.int .i64 R):=bu hN1 rfl;have e1:w1.cell? ⟨bn,1,none⟩=some (.slice a bs.length cap):=bu hN1 rfl;have hbn:=lt_of_block HN.out;clear hbB hN1 hb1
 have hbn1:bn<w1.heap.size:=by omega
 have hbn2:bn<w1.heap.size+1:=by omega
 have hbn3:bn<w1.heap.size+1+1:=by omega
 have hst:(w1.alloc (.cells zeroCells189 189)).heap[w1.heap.size]?=some (.cells (bt (aX 0)) 189 (0,0)):=by rw[xq];exact heap_alloc_new _ _
 have HST:=aa hst;clear hst
 have hmk:=fun W=>run_make_row' (P:=prog) 263 59 (.slice none 0 0) 24 underlying263 Bg rfl .i64 .i64 R (by omega) (by omega) W
 go_wp2_with (first
  | (refine wpList_store_row rfl 189 _ _ rfl _ _ rfl rfl 189 _ HST.out (by rw[aZ];simpa [aM] using i94.out) (by rw[aZ,aZ];simp[aM]) (fP _) ?_;rw[World.setRow_alloc_new])
  | (go_at_call 228;refine(l9 _ _ _ _ _ _).mono ?_;rintro e w' ⟨rfl,rfl⟩))
 obtain⟨W0,hW0⟩:∃W0,W0=((((w1.alloc (Obj.cells (bt (aX 1125899906842624)) 189)).alloc (Obj.cells (madeCells #[Value.slice none 0 0] R) 59)).alloc (Obj.cells #[Value.slice (some ⟨w1.heap.size+1,0,none⟩) R R] 263)).alloc (Obj.cells #[Value.slice a bs.length cap] 59)).alloc (Obj.cells #[Value.func (Fn.func tf) #[] caps] 187):=⟨_,rfl⟩;rw[←hW0]
 have z0:W0.heap.size=w1.heap.size+5:=by rw[hW0];simp
 have o7:W0.heap[w1.heap.size]?=some (.cells (bt (aX aC)) 189 (0,0)):=by rw[hW0,Below.heap_alloc _ _ _ (by simp only[World.size_alloc];omega),Below.heap_alloc _ _ _ (by simp only[World.size_alloc];omega),Below.heap_alloc _ _ _ (by simp only[World.size_alloc];omega),Below.heap_alloc _ _ _ (by simp only[World.size_alloc];omega),af _ _ _ (by simp only)];rfl
 have oN:W0.heap[w1.heap.size+1]?=some (.cells (List.replicate R (.slice none 0 0)).toArray 59 (0,0)):=by rw[hW0,Below.heap_alloc _ _ _ (by simp only[World.size_alloc];omega),Below.heap_alloc _ _ _ (by simp only[World.size_alloc];omega),Below.heap_alloc _ _ _ (by simp only[World.size_alloc];omega),af _ _ _ (by simp only[World.size_alloc])];rw[←toList_madeCells_one]
 have oB:W0.heap[w1.heap.size+2]?=some (.cells #[.slice (some ⟨w1.heap.size+1,0,none⟩) R R] 263 (0,0)):=by rw[hW0,Below.heap_alloc _ _ _ (by simp only[World.size_alloc];omega),Below.heap_alloc _ _ _ (by simp only[World.size_alloc];omega),af _ _ _ (by simp only[World.size_alloc])]
 have o3':W0.heap[w1.heap.size+3]?=some (.cells #[.slice a bs.length cap] 59 (0,0)):=by rw[hW0,Below.heap_alloc _ _ _ (by simp only[World.size_alloc];omega),af _ _ _ (by simp only[World.size_alloc])]
 have o4':W0.heap[w1.heap.size+4]?=some (.cells #[.func (.func tf) #[] caps] 187 (0,0)):=by rw[hW0,af _ _ _ (by simp only[World.size_alloc])]
 have o3:W0.cell? ⟨w1.heap.size+3,0,none⟩=some (.slice a bs.length cap):=cell_of_one o3';have o4:W0.cell? ⟨w1.heap.size+4,0,none⟩=some (.func (.func tf) #[] caps):=cell_of_one o4'
 have b01:Below w1.heap.size w1 W0:=by rw[hW0];go_grown
 clear hW0 e0 e1 hmk HST;have b00:Below w.heap.size w W0:=B1.out.trans (b01.mono (by omega));have oR:W0.heap[w.heap.size]?=some (.cells (bt (aX 0)) 189 (0,0)):=ac b01 hs1 HBB.out;have hB0:BoundsAt W0 a bs:=H.out.below b00 (Nat.le_refl _)
 have hT0:eJ prog tf caps (fun b=>b<w.heap.size∨b=w1.heap.size+3∨b=w1.heap.size+4) W0 bs.length t :=
  fun k hk W hkp=>HT.out k hk W ⟨Nat.le_trans b00.size hkp.size,fun b hb=>(hkp.same b (.inl hb)).trans (b00.block b hb)⟩
 refine gK (w1.heap.size+3) (w1.heap.size+4) (fun b=>b<w.heap.size∨b=w1.heap.size+3∨b=w1.heap.size+4) a cap bs tf caps t rfl hl hB0 hT0 EG.out
  (by intro b hb;omega) (.inr (.inl rfl)) (.inr (.inr rfl)) ?fa o3 o4
  (fun pre W=>∃vs,NearAt W (w1.heap.size+5) (w1.heap.size+1) vs (dz R (bL bs (pre.map (·.1))))∧W.heap[w1.heap.size]?=some (.cells (bt (aX aC)) 189 (0,0)) ∧
   W.heap[w1.heap.size+2]?=some (.cells #[.slice (some ⟨w1.heap.size+1,0,none⟩) R R] 263 (0,0))∧W.heap[w.heap.size]?=some (.cells (bt (aX 0)) 189 (0,0))∧Below w.heap.size w W∧W0.heap.size≤W.heap.size)
  (fun _ _ _=>False) ?own (fun c s W W' row h=>h.elim) ?start (fun pre W h=>by obtain⟨_,_,_,_,_,_,h⟩:=h;exact h)
  (fun Bx W=>w1.heap.size+1<W.heap.size∧∀vs:Array Value,W.heap[w1.heap.size+1]?=some (.cells vs 59 (0,0))→∀v∈vs,v.ownBlock≠some Bx) ?fr ?o6
  (fun T x Bx=>((T.setIfInBounds 31 (.int .i64 (x.1:Int))).setIfInBounds 32 (bs[x.1]'x.2.1).val).setIfInBounds 10 (.pointer (some ⟨Bx,0,none⟩)))
  ?assign ?body ?done (fun _ _ _ _ _ _ h=>h.elim)
 case fa =>
  intro x hx h0;subst hx
  rcases H.out with e|⟨b,off,e,hbl,_⟩
  ·subst e;simp at h0
  ·cases e;exact .inl hbl
 case own =>
  rintro pre W W' row ⟨vs,hn,h1,h2,h3,hb,hs⟩ hg hr
  have nb:∀(k:Nat) (c:Array Value) (ty:TypeId),W.heap[k]?=some (Obj.cells c ty (0,0))→W'.heap[k]?=some (Obj.cells c ty (0,0)):=by
   intro k c ty hk;rw[hg.block k (lt_of_block hk) ?_]
   ·exact hk
   ·intro e
    obtain⟨_,o,ho,hi⟩:=hr k e.symm;rw[hk] at ho;cases ho;simp[Obj.isCells] at hi
  exact⟨vs,hn.keeps hg (fun r e=>(hr r e).2),nb _ _ _ h1,nb _ _ _ h2,nb _ _ _ h3,hb.grown hg (by omega) (fun k e=>by have:=(hr k e).1;omega),Nat.le_trans hs hg.size⟩
 case fr =>
  rintro Bx _ W W' row ⟨hlt,hv⟩ hg hr;have e:W'.heap[w1.heap.size+1]?=W.heap[w1.heap.size+1]?:=hg.block _ hlt (fun e=>by have:=(hr _ e.symm).1;omega);exact⟨Nat.lt_of_lt_of_le hlt hg.size,fun vs hvs=>hv vs (by rw[←e];exact hvs)⟩
 case o6 =>
  rintro pre W o ⟨vs,hn,h1,h2,h3,hb,hs⟩;have hl:=lt_of_block hn.blk;refine⟨by simp;omega,fun vs' hvs v hv=>?_⟩;rw[Below.heap_alloc _ _ _ hl,hn.blk] at hvs;cases hvs;simp only[List.mem_toArray] at hv;obtain⟨p,hp,e⟩:=List.getElem_of_mem hv
  have hp':p<(dz R (bL bs (pre.map (·.1)))).length:=by rw[←hn.len];exact hp
  have ho:=hn.own p hp';intro eb;rw[List.getD_eq_getElem?_getD,List.getElem?_eq_getElem hp,Option.getD_some,e] at ho;have:=(ho.lt _ eb).2;omega
 case start=>exact⟨_,by rw[List.map_nil,show bL bs []=[] from rfl,wQ];exact NearAt.made oN (by omega),o7,oB,oR,b00,Nat.le_refl _⟩
 case assign =>
  intro l x W K hK;simp only[rI,rH,rJ,Bd.val] at hK ⊢;gi_wp2;exact hK
 case body =>
  rintro l pre x Bx W hle ⟨r,hlp⟩ ⟨vs,hn,h1,h2,h3,hb,hs⟩ hBx hc ⟨_,hfr⟩ hlen;simp only[rI,rH,rJ,Bd.val];have hmem:bs[x.1]'x.2.1∈bs:=List.getElem_mem _
  have hsel:bL bs ((pre++[x]).map (·.1))=bL bs (pre.map (·.1))++[bs[x.1]'x.2.1]:=by
   rw[List.map_append,mo];simp[bL,x.2.1]
  obtain⟨y,hy⟩:=ag (bs[x.1]'x.2.1);rw[hy] at hmem hc hsel ⊢;obtain⟨v1,v2,v3,v4,v5,v6⟩:=HV.out y hmem;obtain⟨ys,yd,ym,yr⟩:=y;simp only at v1 v2 v3 v4 v5 v6;obtain⟨si,rfl⟩:=Int.eq_ofNat_of_zero_le v1;obtain⟨rows,hrows⟩:=ag (dz R (bL bs (pre.map (·.1))))
  have hrl:rows.length=R:=by rw[←hrows,iw]
  rw[hrows] at hn
  have hnew:dz R (bL bs ((pre++[x]).map (·.1)))=rows.set si (rows.getD si []++[⟨si,yd,ym,yr⟩]):=by rw[hsel,uO rfl (by omega),hrows]
  have HNEW:=aa hnew;have HSEL:=aa hsel;have HROWS:=aa hrows;have HNR:=aa hn;have HY:=aa hy;clear hnew hsel hrows hy hmem;obtain⟨vv,hvv⟩:=ag (vs.getD si .nilFunc)
  have hsl:si<rows.length:=by omega
  have hown:=hn.own si hsl
  have hsv:si<vs.length:=by rw[hn.len];omega
  have hvm:vs[si]?=some vv:=by rw[←hvv,List.getD_eq_getElem?_getD,List.getElem?_eq_getElem hsv];rfl
  have hvBx:vv.ownBlock≠some Bx:=hfr vs.toArray hn.blk vv (by simp only[List.mem_toArray];exact List.mem_of_getElem? hvm);rw[hvv] at hown;have hWg:w1.heap.size+1<W.heap.size:=lt_of_block hn.blk
  have hvg:∀b,vv.ownBlock=some b→w1.heap.size+5≤b:=fun b e=>(hown.lt b e).1
  obtain⟨i0,hi,hz0,hz1,hz2⟩:=info_parts lR
  have hrn:(rows.getD si []).length≤4000:=by
   rw[←HROWS.out,gY (by omega)];have:=List.length_filter_le (fun b:Bd=>b.src==(si:Int)) (bL bs (pre.map (·.1)));simp only[bL,List.length_map] at this;simp only[bL];omega
  have hone:∀u∈[Value.int .i64 (si:Int),.int .i64 yd,.int .i64 ym,.int .i64 yr],u.oneCell'=true:=by intro u hu;simp at hu;rcases hu with rfl|rfl|rfl|rfl<;>rfl
  have hnews:∀j u,[Value.int .i64 (si:Int),.int .i64 yd,.int .i64 ym,.int .i64 yr][j]?=some u→((W.alloc (Obj.cells #[.int .i64 si,.int .i64 yd,.int .i64 ym,.int .i64 yr] 65)).drew).cell? ((⟨W.heap.size,0,none⟩:Addr).add j)=some u:=by
   intro j u hj;rw[show((⟨W.heap.size,0,none⟩:Addr).add j)=⟨W.heap.size,0+j,none⟩ from by unfold Addr.add;split<;>simp_all]
   show(W.alloc _).cell? _=_
   rw[cell_of_row _ _ _ _ _ _ (heap_alloc_new W _),Nat.zero_add];simpa using hj
  obtain⟨v',wa,hrun,hown',hgrow,_,hblk⟩:=run_append_own_at (P:=prog) ((W.alloc (Obj.cells #[.int .i64 si,.int .i64 yd,.int .i64 ym,.int .i64 yr] 65)).drew) (w1.heap.size+5) 59 59 65 i0 _ 4 32 underlying59 hi hz0 hz1 hz2 rfl (by decide) vv _ _
   ((hown.alloc _).drew) ⟨W.heap.size,0,none⟩ 1 1 [.int .i64 si,.int .i64 yd,.int .i64 ym,.int .i64 yr] rfl hnews hone (by unfold maxLen;omega) (by omega) (by simp;omega)
  obtain⟨g',cap',rfl⟩:=ownsRow_succ hown';have k0:W.cell? ⟨w1.heap.size+1+1,0,none⟩=some (.slice (some ⟨w1.heap.size+1,0,none⟩) R R):=cell_of_one h2
  have k1:W.cell? ⟨w1.heap.size+1,si,none⟩=some vv:=by rw[cell_of_row _ _ _ _ _ _ hn.blk];simpa using hvm
  have y0:W.cell? ⟨Bx,0,none⟩=some (.int .i64 si):=bu hc rfl;have y1:W.cell? ⟨Bx,1,none⟩=some (.int .i64 yd):=bu hc rfl;have y2:W.cell? ⟨Bx,2,none⟩=some (.int .i64 ym):=bu hc rfl;have y3:W.cell? ⟨Bx,3,none⟩=some (.int .i64 yr):=bu hc rfl;have hBxW:=lt_of_block hc;have hs2:=lt_of_block h2
  have keep:∀k,k<W.heap.size→vv.ownBlock≠some k→wa.heap[k]?=W.heap[k]?:=fun k hk hne=>(hgrow.block k (by simp;omega) (fun e=>hne e.symm)).trans (Below.heap_alloc W _ k hk)
  have na:=keep (w1.heap.size+1) hWg (fun e=>by have:=hvg _ e;omega);have nb:=keep (w1.heap.size+2) hs2 (fun e=>by have:=hvg _ e;omega);have nc:=keep Bx hBxW hvBx;have k0a:wa.cell? ⟨w1.heap.size+1+1,0,none⟩=some (.slice (some ⟨w1.heap.size+1,0,none⟩) R R):=cell_of_one (nb.trans h2)
  have k1a:wa.cell? ⟨w1.heap.size+1,si,none⟩=some vv:=by rw[cell_of_row _ _ _ _ _ _ (na.trans hn.blk)];simpa using hvm
  have k1f:wa.frozen? ⟨w1.heap.size+1,si,none⟩=false:=frozen_of_row _ _ _ _ _ (na.trans hn.blk)
  have y1a:wa.cell? ⟨Bx,1,none⟩=some (.int .i64 yd):=by rw[cell_of_row _ _ _ _ _ _ (nc.trans hc)];rfl
  have y2a:wa.cell? ⟨Bx,2,none⟩=some (.int .i64 ym):=by rw[cell_of_row _ _ _ _ _ _ (nc.trans hc)];rfl
  have y3a:wa.cell? ⟨Bx,3,none⟩=some (.int .i64 yr):=by rw[cell_of_row _ _ _ _ _ _ (nc.trans hc)];rfl
  have y0a:wa.cell? ⟨Bx,0,none⟩=some (.int .i64 si):=by rw[cell_of_row _ _ _ _ _ _ (nc.trans hc)];rfl
  have HHid1:=aa hn;have HO:=aa hown';have HG:=aa hgrow;have HK:=aa keep;have HBK:=aa hblk;have HV2:=aa hvg;have H1:=aa h1;have H2:=aa h2;have H3:=aa h3;have HC:=aa hc;have HFR:=aa hfr;have HVM:=aa hvm;have HVV:=aa hvv;have HRL:=aa hrl;have HOWN:=aa hown;clear hn hown' hgrow keep hblk hvg h1 h2 h3 hc hfr hvm hvv hown na nb nc hvBx hrl
  have hpost:KeepsFrom W0.heap.size W (wa.setCell ⟨w1.heap.size+1,si,none⟩ (.slice (some ⟨g',0,none⟩) ((rows.getD si []).length+1) cap'))∧KeepsB (fun b=>b<w.heap.size∨b=w1.heap.size+3∨b=w1.heap.size+4) W (wa.setCell ⟨w1.heap.size+1,si,none⟩ (.slice (some ⟨g',0,none⟩) ((rows.getD si []).length+1) cap')) ∧
   ∃vs,NearAt (wa.setCell ⟨w1.heap.size+1,si,none⟩ (.slice (some ⟨g',0,none⟩) ((rows.getD si []).length+1) cap')) (w1.heap.size+5) (w1.heap.size+1) vs (dz R (bL bs ((pre++[x]).map (·.1))))∧(wa.setCell ⟨w1.heap.size+1,si,none⟩ (.slice (some ⟨g',0,none⟩) ((rows.getD si []).length+1) cap')).heap[w1.heap.size]?=some (.cells (bt (aX aC)) 189 (0,0)) ∧
    (wa.setCell ⟨w1.heap.size+1,si,none⟩ (.slice (some ⟨g',0,none⟩) ((rows.getD si []).length+1) cap')).heap[w1.heap.size+2]?=some (.cells #[.slice (some ⟨w1.heap.size+1,0,none⟩) R R] 263 (0,0))∧(wa.setCell ⟨w1.heap.size+1,si,none⟩ (.slice (some ⟨g',0,none⟩) ((rows.getD si []).length+1) cap')).heap[w.heap.size]?=some (.cells (bt (aX 0)) 189 (0,0)) ∧
    Below w.heap.size w (wa.setCell ⟨w1.heap.size+1,si,none⟩ (.slice (some ⟨g',0,none⟩) ((rows.getD si []).length+1) cap'))∧W0.heap.size≤(wa.setCell ⟨w1.heap.size+1,si,none⟩ (.slice (some ⟨g',0,none⟩) ((rows.getD si []).length+1) cap')).heap.size:=by
   obtain⟨Wal,hWal⟩:∃Wal,Wal=(W.alloc (Obj.cells #[.int .i64 si,.int .i64 yd,.int .i64 ym,.int .i64 yr] 65)).drew:=⟨_,rfl⟩;have hgr:=HG.out;rw[←hWal] at hgr
   have hbal:Below W.heap.size W Wal:=by rw[hWal];exact(aD).drew
   have hbk:=HBK.out;rw[←hWal] at hbk
   have hks:∀k,k<W.heap.size→k≠w1.heap.size+1→vv.ownBlock≠some k→(wa.setCell ⟨w1.heap.size+1,si,none⟩ (.slice (some ⟨g',0,none⟩) ((rows.getD si []).length+1) cap')).heap[k]?=W.heap[k]? :=
    fun k h1 h2 h3=>(heap_setCell_other _ _ _ _ h2).trans (HK.out k h1 h3)
   have hno:∀k,k<w1.heap.size+5→vv.ownBlock≠some k:=fun k hk e=>by have:=HV2.out k e;omega
   refine⟨?_,⟨?_,?_⟩,vs.set si (.slice (some ⟨g',0,none⟩) ((rows.getD si []).length+1) cap'),?_,?_,?_,?_,?_,?_⟩
   ·refine(KeepsOthers.trans (B:=Wal) ?_ ((KeepsOthers.of_grownBy hgr ?_).trans (KeepsOthers.setCell _ _ _))).from _
    ·rw[hWal];exact(KeepsOthers.alloc W _).trans (KeepsOthers.drew _)
    ·intro j o ej hj
     rcases HOWN.out.2 with ⟨e,_⟩|⟨gb,cp,cur,e,_,hh,_⟩
     ·rw[e] at ej;simp[Value.ownBlock] at ej
     ·rw[e] at ej
      simp only[Value.ownBlock,Option.some.injEq] at ej;rw[hbal.block j (by rw[←ej];exact lt_of_block hh),←ej,hh] at hj;cases hj
      rfl
   ·simp only[World.size_setCell];exact Nat.le_trans hbal.size hgr.size
   ·intro b hb
    exact hks b (by omega) (by omega) (hno b (by omega))
   ·rw[HNEW.out]
    exact NearAt.appended (HHid1.out.below hbal (Nat.le_refl _)) hsl (by have:=hbal.size;omega) HO.out (by rw[HVV.out];exact hgr) (by rw[HVV.out];exact hbk)
   ·exact(hks _ (by omega) (by omega) (hno _ (by omega))).trans H1.out
   ·exact(hks _ (by omega) (by omega) (hno _ (by omega))).trans H2.out
   ·exact(hks _ (by omega) (by omega) (hno _ (by omega))).trans H3.out
   ·exact((hb.trans (hbal.mono (by have:=hb.size;omega))).grown hgr (by have:=hbal.size;omega) (fun k e=>by have:=HV2.out k e;omega)).setCell (by simp;omega) _
   ·simp only[World.size_setCell];have:=hbal.size;have:=hgr.size;omega
  have HPOST:=aa hpost;clear hpost;gi_wp2_with fail
  have hmx:Tryz.prog.follows Departure.mixedOrders=true:=by kernel_rfl
  refine ik (S:=fun V=>V.cell? ⟨w1.heap.size+1+1,0,none⟩=some (.slice (some ⟨w1.heap.size+1,0,none⟩) R R)∧V.cell? ⟨Bx,0,none⟩=some (.int .i64 si)∧V.cell? ⟨Bx,1,none⟩=some (.int .i64 yd)∧V.cell? ⟨Bx,2,none⟩=some (.int .i64 ym)∧V.cell? ⟨Bx,3,none⟩=some (.int .i64 yr)) hmx (by kernel_rfl) ?hout ?_
  case hout =>
   rintro⟨a,w,h⟩;exact h
  have hS0:W.drew.cell? ⟨w1.heap.size+1+1,0,none⟩=some (.slice (some ⟨w1.heap.size+1,0,none⟩) R R)∧W.drew.cell? ⟨Bx,0,none⟩=some (.int .i64 si)∧W.drew.cell? ⟨Bx,1,none⟩=some (.int .i64 yd)∧W.drew.cell? ⟨Bx,2,none⟩=some (.int .i64 ym)∧W.drew.cell? ⟨Bx,3,none⟩=some (.int .i64 yr):=⟨k0,y0,y1,y2,y3⟩
  have sI:(si:Int)<R:=by omega
  have sR:si<R:=by omega
  refine wpAnyH_take (i:=0) (v:=.slice (some ⟨w1.heap.size+1,0,none⟩) R R) rfl (by kernel_rfl) (by kernel_rfl) (by kernel_rfl) (by intro c a w h;exact h) (.inl ⟨rfl,fun V hV=>?_⟩) hS0 ?_
  ·obtain⟨q0,q1,q2,q3,q4⟩:=hV
   simp[go_sem,execOp,q0]
  simp only[Act.put,List.setIfInBounds_toArray];refine wpAnyH_take (i:=1) (v:=.pointer (some ⟨Bx,0,none⟩)) rfl (by kernel_rfl) (by kernel_rfl) (by kernel_rfl) (by intro c a w h;exact h) (.inl ⟨rfl,fun V hV=>?_⟩) hS0 ?_
  ·obtain⟨q0,q1,q2,q3,q4⟩:=hV
   simp[go_sem,execOp]
  simp only[Act.put];refine wpAnyH_take (i:=2) (v:=.int .i64 si) rfl (by kernel_rfl) (by kernel_rfl) (by kernel_rfl) (by intro c a w h;exact h) (.inl ⟨rfl,fun V hV=>?_⟩) hS0 ?_
  ·obtain⟨q0,q1,q2,q3,q4⟩:=hV
   simp[go_sem,execOp,q1]
  simp only[Act.put];refine wpAnyH_take (i:=3) (v:=.slice (some ⟨w1.heap.size+1,0,none⟩) R R) rfl (by kernel_rfl) (by kernel_rfl) (by kernel_rfl) (by intro c a w h;exact h) (.inl ⟨rfl,fun V hV=>?_⟩) hS0 ?_
  ·obtain⟨q0,q1,q2,q3,q4⟩:=hV
   simp[go_sem,execOp,q0]
  simp only[Act.put];refine wpAnyH_take (i:=4) (v:=.pointer (some ⟨Bx,0,none⟩)) rfl (by kernel_rfl) (by kernel_rfl) (by kernel_rfl) (by intro c a w h;exact h) (.inl ⟨rfl,fun V hV=>?_⟩) hS0 ?_
  ·obtain⟨q0,q1,q2,q3,q4⟩:=hV
   simp[go_sem,execOp]
  simp only[Act.put];refine wpAnyH_take (i:=5) (v:=.int .i64 si) rfl (by kernel_rfl) (by kernel_rfl) (by kernel_rfl) (by intro c a w h;exact h) (.inl ⟨rfl,fun V hV=>?_⟩) hS0 ?_
  ·obtain⟨q0,q1,q2,q3,q4⟩:=hV
   simp[go_sem,execOp,q1]
  simp only[Act.put];refine wpAnyH_take (i:=6) (v:=.pointer (some ⟨w1.heap.size+1,si,none⟩)) rfl (by kernel_rfl) (by kernel_rfl) (by kernel_rfl) (by intro c a w h;exact h) (.inl ⟨rfl,fun V hV=>?_⟩) hS0 ?_
  ·obtain⟨q0,q1,q2,q3,q4⟩:=hV
   simp[go_sem,execOp,sI]
  simp only[Act.put];refine wpAnyH_take (i:=8) (v:=.agg #[.int .i64 si,.int .i64 yd,.int .i64 ym,.int .i64 yr]) rfl (by kernel_rfl) (by kernel_rfl) (by kernel_rfl) (by intro c a w h;exact h) (.inl ⟨rfl,fun V hV=>?_⟩) hS0 ?_
  ·obtain⟨q0,q1,q2,q3,q4⟩:=hV
   simp[go_sem,execOp,q1,q2,q3,q4]
  simp only[Act.put];refine wpAnyH_all (rs:=[7,9]) (by kernel_rfl) (by simp) ?_
  have hWal:((W.alloc (Obj.cells #[.int .i64 si,.int .i64 yd,.int .i64 ym,.int .i64 yr] 65)).drew).cell? ⟨w1.heap.size+1,si,none⟩=some vv:=by rw[←k1];exact Below.cell ((Below.refl W.heap.size W).alloc (Nat.le_refl _) _) (by exact hWg)
  have sal:∀p:Addr,p.block<W.heap.size→((W.alloc (Obj.cells #[.int .i64 si,.int .i64 yd,.int .i64 ym,.int .i64 yr] 65)).drew).cell? p=W.cell? p:=fun p hp=>Below.cell ((Below.refl W.heap.size W).alloc (Nat.le_refl _) _) hp
  have hS1:=And.intro ((sal ⟨w1.heap.size+1+1,0,none⟩ (by exact hs2)).trans k0) (And.intro ((sal ⟨Bx,0,none⟩ hBxW).trans y0) (And.intro ((sal ⟨Bx,1,none⟩ hBxW).trans y1) (And.intro ((sal ⟨Bx,2,none⟩ hBxW).trans y2) ((sal ⟨Bx,3,none⟩ hBxW).trans y3))))
  have hneB:Bx≠w1.heap.size+1:=by omega
  have hS3:∀v,(wa.setCell ⟨w1.heap.size+1,si,none⟩ v).cell? ⟨w1.heap.size+1+1,0,none⟩=some (.slice (some ⟨w1.heap.size+1,0,none⟩) R R)∧(wa.setCell ⟨w1.heap.size+1,si,none⟩ v).cell? ⟨Bx,0,none⟩=some (.int .i64 si)∧(wa.setCell ⟨w1.heap.size+1,si,none⟩ v).cell? ⟨Bx,1,none⟩=some (.int .i64 yd)∧(wa.setCell ⟨w1.heap.size+1,si,none⟩ v).cell? ⟨Bx,2,none⟩=some (.int .i64 ym)∧(wa.setCell ⟨w1.heap.size+1,si,none⟩ v).cell? ⟨Bx,3,none⟩=some (.int .i64 yr):=by
   intro v
   have e:∀p:Addr,p.block≠w1.heap.size+1→(wa.setCell ⟨w1.heap.size+1,si,none⟩ v).cell? p=wa.cell? p:=fun p hp=>World.cell?_of_block (w:=wa) (heap_setCell_other _ _ _ _ hp)
   exact⟨(e _ (by simp)).trans k0a,(e _ hneB).trans y0a,(e _ hneB).trans y1a,(e _ hneB).trans y2a,(e _ hneB).trans y3a⟩
  have HSAL:=aa sal;clear sal;intro i hi;simp only[List.mem_cons,List.not_mem_nil,or_false] at hi
  rcases hi with rfl|rfl
  ·refine fh (v:=vv) (w':=W.drew) rfl rfl (by simp[go_sem,execOp,k1]) ⟨hS0,?_⟩
   simp only[Act.put,List.getElem_toArray,List.getElem_cons_succ,List.getElem_cons_zero,rI,rH,rJ];refine dF 9 (by kernel_rfl) (fh (v:=.slice (some ⟨W.heap.size,0,none⟩) 1 1) (w':=(W.alloc (Obj.cells #[.int .i64 si,.int .i64 yd,.int .i64 ym,.int .i64 yr] 65)).drew) rfl rfl (by simp[go_sem,execOp]) ⟨hS1,?_⟩);simp only[Act.put,List.getElem_toArray,List.getElem_cons_succ,List.getElem_cons_zero,rI,rH,rJ];refine dF 10 (by kernel_rfl) (fh (w':=wa) (v:=.slice (some ⟨g',0,none⟩) ((rows.getD si []).length+1) cap') rfl rfl (by exact dR (s:=.tmp 40) (x:=.tmp 42) (t:=59) (vs:=vv) (vx:=.slice (some ⟨W.heap.size,0,none⟩) 1 1) rfl rfl rfl hrun) ⟨⟨k0a,y0a,y1a,y2a,y3a⟩,?_⟩);simp only[Act.put,List.getElem_toArray,List.getElem_cons_succ,List.getElem_cons_zero,rI,rH,rJ];refine dF 11 (by kernel_rfl) (fh (v:=.pointer (some ⟨w1.heap.size+1,si,none⟩)) (w':=wa) rfl rfl (by simp[go_sem,execOp,sI]) ⟨⟨k0a,y0a,y1a,y2a,y3a⟩,?_⟩);simp only[Act.put,List.getElem_toArray,List.getElem_cons_succ,List.getElem_cons_zero,rI,rH,rJ];refine dF 12 (by kernel_rfl) (jl (w':=wa.setCell ⟨w1.heap.size+1,si,none⟩ (.slice (some ⟨g',0,none⟩) ((rows.getD si []).length+1) cap')) rfl rfl (by simp[go_sem,execOp,k1a,k1f]) ⟨hS3 _,?_⟩);refine wpAnyH_done (by kernel_rfl) ?_ _;exact HPOST.out
  ·refine fh (v:=.slice (some ⟨W.heap.size,0,none⟩) 1 1) (w':=(W.alloc (Obj.cells #[.int .i64 si,.int .i64 yd,.int .i64 ym,.int .i64 yr] 65)).drew) rfl rfl (by simp[go_sem,execOp]) ⟨hS1,?_⟩
   simp only[Act.put,List.getElem_toArray,List.getElem_cons_succ,List.getElem_cons_zero,rI,rH,rJ];refine dF 7 (by kernel_rfl) (fh (v:=vv) (w':=(W.alloc (Obj.cells #[.int .i64 si,.int .i64 yd,.int .i64 ym,.int .i64 yr] 65)).drew) rfl rfl (by simp[go_sem,execOp,hWal]) ⟨hS1,?_⟩);simp only[Act.put,List.getElem_toArray,List.getElem_cons_succ,List.getElem_cons_zero,rI,rH,rJ];refine dF 10 (by kernel_rfl) (fh (w':=wa) (v:=.slice (some ⟨g',0,none⟩) ((rows.getD si []).length+1) cap') rfl rfl (by exact dR (s:=.tmp 40) (x:=.tmp 42) (t:=59) (vs:=vv) (vx:=.slice (some ⟨W.heap.size,0,none⟩) 1 1) rfl rfl rfl hrun) ⟨⟨k0a,y0a,y1a,y2a,y3a⟩,?_⟩);simp only[Act.put,List.getElem_toArray,List.getElem_cons_succ,List.getElem_cons_zero,rI,rH,rJ];refine dF 11 (by kernel_rfl) (fh (v:=.pointer (some ⟨w1.heap.size+1,si,none⟩)) (w':=wa) rfl rfl (by simp[go_sem,execOp,sI]) ⟨⟨k0a,y0a,y1a,y2a,y3a⟩,?_⟩);simp only[Act.put,List.getElem_toArray,List.getElem_cons_succ,List.getElem_cons_zero,rI,rH,rJ];refine dF 12 (by kernel_rfl) (jl (w':=wa.setCell ⟨w1.heap.size+1,si,none⟩ (.slice (some ⟨g',0,none⟩) ((rows.getD si []).length+1) cap')) rfl rfl (by simp[go_sem,execOp,k1a,k1f]) ⟨hS3 _,?_⟩);refine wpAnyH_done (by kernel_rfl) ?_ _;exact HPOST.out
 case done =>
  rintro D xs W hD hxs ⟨vs,hn,h1,h2,h3,hb,hs⟩ hK;rw[hxs] at hn;have HNA:=aa hn;have H1:=aa h1;have H2:=aa h2;have H3:=aa h3;have HKD:=aa hK;clear hn h1 h2 h3 hK hxs hT0 hB0 o3 o4 o3' o4' oN oB o7 oR
  have hcA:W.cell? ⟨w1.heap.size,ai,none⟩=some (.int .i64 ((aX aC).getD ai 0)):=by rw[cell_of_row _ _ _ _ _ _ H1.out,dE (by rw[aM];omega)]
  have hfA:W.frozen? ⟨w1.heap.size,ai,none⟩=false:=frozen_of_row _ _ _ _ _ H1.out;have hsW:w1.heap.size<W.heap.size:=lt_of_block H1.out
  have hai:(ai:Int)<128:=by omega
  go_wp2_with fail;obtain⟨out0,hout0⟩:=ag ((aX aC).set ai 0)
  have st0:DSt w ((W.alloc (Obj.cells zeroCells266 266)).setCell ⟨w1.heap.size,ai,none⟩ (.int .i64 0)) w1.heap.size W.heap.size D R vs (dz R (bL bs (aq t bs.length))) out0 iz:=by
   rw[←hout0];refine DSt.setOut ?_ _ _;have hba:Below W.heap.size W (W.alloc (Obj.cells zeroCells266 266)):=aD;exact⟨ac hba hsW H1.out,by rw[Bt];exact heap_alloc_new _ _,HNA.out.below hba (Nat.le_refl _),ac hba (lt_of_block H2.out) H2.out,ac hba (lt_of_block H3.out) H3.out,ac hba (lt_of_block HKD.out) HKD.out,bB hb hba,by omega,by omega⟩
  obtain⟨near,hnear⟩:=ag (dz R (bL bs (aq t bs.length)))
  have hdist:dW R h (bL bs (aq t bs.length)) ai=wn R h ai (iF R h near (R+1) out0 iz):=by rw[←hout0,←hnear];rfl
  have ho0:ml out0:=by rw[←hout0];exact mv (a:=(ai:Int))
  rw[hnear] at st0;obtain⟨dr,hdr⟩:=ag (iF R h near (R+1) out0 iz);rw[hdr] at hdist;have HDIST:=aa hdist;have HDR:=aa hdr;have HNEAR:=aa hnear;rw[World.setCell_alloc_past _ _ _ _ hsW] at st0;have HST0:=aa st0;have HO0:=aa ho0
  have hu0:fV R iz=R:=by
   unfold fV iz;rw[List.filter_eq_self.2]
   ·simp
   ·intro p hp
    simp only[List.getD_eq_getElem?_getD,List.getElem?_replicate]
    split<;>rfl
  have HU0:=aa hu0;clear hdist hdr hnear st0 ho0 hu0 hout0
  go_loopg [12] R (fun gg at_ wr=>∃(out:List Int) (done:List Bool),fV R done≤gg∧Hid (iF R h near (fV R done+1) out done=dr)∧Hid (ml out)∧Hid (done.length=128)∧Hid (DSt w wr w1.heap.size W.heap.size D R vs near out done))
  case atStart=>exact⟨out0,iz,by rw[HU0.out];exact Nat.le_refl _,aa (by rw[HU0.out];exact HDR.out),HO0,aa rfl,HST0⟩
  case round =>
   obtain⟨out,done,hu,hgo,hok,hdl,hst⟩:=hrel;have hnet:=aa (ac hst.out.bl hbn HN.out);have nN:wr.cell? ⟨bn,0,none⟩=some (.int .i64 R):=bu hnet.out rfl
   have hdecR:decide ((0:Int)<(R:Int))=true:=by simp;omega
   go_wp2_with fail
   go_loopw [12,52] (fun at_ i wr'=>∃(k nd:Nat),k≤R∧i=.int .i64 k∧wr'=wr.drewN nd∧at_=.int .i64 ((List.range k).foldl (cE out done) (-1))) (fun _ i _=>R-(intOf i).toNat)
   case atStart=>exact⟨0,0,by omega,rfl,rfl,rfl⟩
   case round =>
    obtain⟨k,nd,hk,rfl,rfl,rfl⟩:=hrel;obtain⟨A,hA⟩:=ag ((List.range k).foldl (cE out done) (-1));rw[hA];have HA:=aa hA
    have hArange:A<0∨(A.toNat<R∧done.getD A.toNat false=false∧out.getD A.toNat 0<aC):=by
     rw[←hA];exact pV out done _ (fun p hp=>by have:=List.mem_range.1 hp;omega) (-1) (.inl (by omega))
    clear hA;have nN':wr.cell? ⟨bn,0,none⟩=some (.int .i64 R):=nN
    by_cases hlt:k<R
    ·obtain⟨cd,_⟩:=hst.out.doneCell (i:=k) (by rw[hdl.out];omega)
     obtain⟨co,_⟩:=hst.out.outCell (i:=k) (by rw[hok.out.1];omega);obtain⟨vk,hvk⟩:=ag (out.getD k 0);rw[hvk] at co;have HVK:=aa hvk;clear hvk
     have k128:(k:Int)<128:=by omega
     have k128':k<128:=by omega
     cases hdk:done.getD k false with
     | true =>
       rw[hdk] at cd;have HDK:=aa hdk;clear hdk;go_wp2_with fail
       go_quiet (fail)
       go_wp2_with fail;go_roundw
       case rel=>exact⟨k+1,_,by omega,by go_num,rfl,by rw[List.range_succ,List.foldl_append,HA.out];exact congrArg _ (ve HDK.out).symm⟩
       case measure=>simp[intOf];omega
     | false =>
       rw[hdk] at cd;have HDK:=aa hdk;clear hdk
       by_cases hfar:vk<1125899906842624
       ·rcases Int.lt_or_le A 0 with hA0|hA0
        ·go_wp2_with fail
         go_quiet (fail)
         go_wp2_with fail;go_roundw
         case rel=>exact⟨k+1,_,by omega,by go_num,rfl,by rw[List.range_succ,List.foldl_append,HA.out];exact congrArg _ (tj HDK.out HVK.out hfar hA0).symm⟩
         case measure=>simp[intOf];omega
        ·obtain⟨A',rfl⟩:=Int.eq_ofNat_of_zero_le hA0
         obtain⟨hAR,hAD,hAF⟩:=hArange.resolve_left (by omega);simp only[Int.toNat_natCast] at hAR hAD hAF;obtain⟨ca,_⟩:=hst.out.outCell (i:=A') (by rw[hok.out.1];omega);obtain⟨va,hva⟩:=ag (out.getD A' 0);rw[hva] at ca;have HVA:=aa hva;clear hva
         have a128:(A':Int)<128:=by omega
         have a128':A'<128:=by omega
         have hA0':¬((A':Int)<0):=by omega
         by_cases hbet:vk<va
         ·go_wp2_with fail
          go_quiet (fail)
          go_wp2_with fail;go_roundw
          case rel=>exact⟨k+1,_,by omega,by go_num,rfl,by rw[List.range_succ,List.foldl_append,HA.out];exact congrArg _ (vn HDK.out HVK.out hfar (by rw[Int.toNat_natCast];exact HVA.out) hbet).symm⟩
          case measure=>simp[intOf];omega
         ·go_wp2_with fail
          go_quiet (fail)
          go_wp2_with fail;go_roundw
          case rel=>exact⟨k+1,_,by omega,by go_num,rfl,by rw[List.range_succ,List.foldl_append,HA.out];exact congrArg _ (uB (u:=va) HVK.out (by omega) (by rw[Int.toNat_natCast];exact HVA.out) (by omega)).symm⟩
          case measure=>simp[intOf];omega
       ·have hfd:decide (vk<1125899906842624)=false:=by simpa using hfar
        go_wp2_with fail
        go_quiet (fail)
        go_wp2_with fail;go_roundw
        case rel=>exact⟨k+1,_,by omega,by go_num,rfl,by rw[List.range_succ,List.foldl_append,HA.out];exact congrArg _ (yj HVK.out (by omega)).symm⟩
        case measure=>simp[intOf];omega
    ·have hkR:k=R:=by omega
     subst hkR;have x0:wr.cell? ⟨w1.heap.size+1+1,0,none⟩=some (.slice (some ⟨w1.heap.size+1,0,none⟩) k k):=cell_of_one hst.out.bx;have hsd:w1.heap.size+5≤W.heap.size:=hst.out.ne2
     rcases Int.lt_or_le A 0 with hA0|hA0
     ·have hend:dr=out:=by
       rw[←hgo.out,iF,if_pos]
       show eD k out done<0
       unfold eD;rw[HA.out];exact hA0
      have HEND:=aa hend;clear hend;go_wp2_with fail
      go_loopw [16,129] (fun _ i wr2=>∃(q:Nat) (out':List Int),q≤k∧i=.int .i64 q∧Hid ((List.range q).foldl (gG h ai) out=out')∧Hid (DSt w wr2 w1.heap.size W.heap.size D k vs near out' done)) (fun _ i _=>k-(intOf i).toNat)
      case atStart=>exact⟨0,out,by omega,rfl,aa rfl,aa (hst.out.drewN _)⟩
      case round =>
       obtain⟨q,out',hq,rfl,hF,hst2⟩:=hrel
       by_cases hlq:q<k
       ·obtain⟨co,cf⟩:=hst2.out.outCell (i:=q) (by rw[←hF.out,mR,hok.out.1];omega)
        have hqv:out'.getD q 0=out.getD q 0:=by rw[←hF.out,Ar _ _ _ _ _ (Nat.le_refl _)]
        have hqr:=hok.out.2 q;rw[hqv] at co;obtain⟨vq,hvq⟩:=ag (out.getD q 0);rw[hvq] at co hqr hqv;have HVQ:=aa hqv;clear hvq hqv;obtain⟨hq0,hq1⟩:=hqr;unfold aC at hq1
        have q128:(q:Int)<128:=by omega
        have q128':q<128:=by omega
        have hnet2:=aa (ac hst2.out.bl hbn HN.out)
        have nq0:wr.cell? ⟨bn,2+q,none⟩=some (.int .i64 (h.getD q 0)):=by rw[cell_of_row _ _ _ _ _ _ hnet2.out,gP (by rw[HH.out];omega)]
        have na0:wr.cell? ⟨bn,2+ai,none⟩=some (.int .i64 (h.getD ai 0)):=by rw[cell_of_row _ _ _ _ _ _ hnet2.out,gP (by rw[HH.out];omega)]
        have lq:=HL.out q;have la:=HL.out ai;obtain⟨hvq,ehq⟩:=ag (h.getD q 0);obtain⟨hva,eha⟩:=ag (h.getD ai 0);rw[ehq] at nq0 lq;rw[eha] at na0 la;have EHQ:=aa ehq;have EHA:=aa eha;clear ehq eha
        by_cases hfar:vq<1125899906842624
        ·go_wp2_with fail
         go_still_tail 18,(by kernel_rfl)
         change wpList _ _ _ _ _ wr.drew
         go_wp2_with fail;go_roundw
         case rel =>
          refine⟨q+1,_,by omega,by go_num,aa rfl,aa ?_⟩;rw[List.range_succ,List.foldl_append,hF.out];simp only[List.foldl_cons,List.foldl_nil]
          unfold gG;rw[if_pos (by rw[HVQ.out];exact hfar),HVQ.out,EHQ.out]
          unfold az;rw[Int.toNat_natCast,EHA.out]
          exact(hst2.out.setOut _ _).drew
         case measure=>simp[intOf];omega
        ·go_wp2_with fail
         go_roundw
         case rel =>
          refine⟨q+1,out',by omega,by go_num,aa ?_,hst2⟩;rw[List.range_succ,List.foldl_append,hF.out];simp only[List.foldl_cons,List.foldl_nil]
          unfold gG;rw[if_neg];rw[HVQ.out];exact hfar
         case measure=>simp[intOf];omega
       ·have hqk:q=k:=by omega
        subst hqk
        have hsz:(bt out').size=128:=by rw[aZ,←hF.out,mR];exact hok.out.1
        have hsz2:(bt (aX 0)).size=128:=by rw[aZ,aM]
        go_wp2_with (first
         | (refine wpList_load_row rfl 189 _ rfl _ rfl 189 _ _ _ hst2.out.o underlying189 rfl (by rw[hsz];exact i94.out) ?_)
         | (refine wpList_store_row rfl 189 _ _ rfl _ (bt out') rfl rfl 189 _ hst2.out.rs (by rw[hsz];exact i94.out) (by rw[hsz,hsz2]) (fP _) ?_))
        refine⟨by simp,.inl ⟨_,_,rfl,run_takeDeferred (by rw[setRow_other _ _ _ _ (by intro e;have:=hst2.out.df;rw[e,hst2.out.rs] at this;cases this)];exact hst2.out.df),?_⟩⟩
        have hDne:D≠w.heap.size:=by intro e;have:=hst2.out.df;rw[e,hst2.out.rs] at this;cases this
        have hDB:w.heap.size≤D:=by omega
        show ∃v,_∧_
        refine⟨_,results_cell_row results191 _ _ _ _ _ _ _ rfl ((World.putObj_heap_other hDne.symm).trans (setRow_heap _ _ _ _ _ _ hst2.out.rs)) underlying189 rfl (by rw[hsz];exact i94.out),?_,?_⟩
        ·rw[HDIST.out,HEND.out]
         unfold wn;rw[hF.out]
        ·exact kj (below_setRow hst2.out.bl (Nat.le_refl _) _) hDB _
     ·obtain⟨A',rfl⟩:=Int.eq_ofNat_of_zero_le hA0
      obtain⟨hAR,hAD,hAF⟩:=hArange.resolve_left (by omega);simp only[Int.toNat_natCast] at hAR hAD hAF;obtain⟨ca,fa⟩:=hst.out.doneCell (i:=A') (by rw[hdl.out];omega)
      have a128:(A':Int)<128:=by omega
      have a128':A'<128:=by omega
      have hst':=aa ((hst.out.drewN nd).setDone A')
      have hnl:near.length=k:=by rw[←HNEAR.out,iw]
      obtain⟨ro,rc,hrv⟩:=hst.out.nr.bounds (p:=A') (by omega);obtain⟨row,hrow⟩:=ag (near.getD A' []);rw[hrow] at hrv
      have hm0:wr.cell? ⟨w1.heap.size+1,A',none⟩=some (.slice ro row.length rc):=by
       rw[cell_of_row _ _ _ _ _ _ hst.out.nr.blk,List.getElem?_toArray,←hrv,List.getD_eq_getElem?_getD,List.getElem?_eq_getElem (by rw[hst.out.nr.len];omega)];rfl
      have HROW:=aa hrow;have HRV:=aa hrv;clear hrow hrv
      have HDR2:Hid (iF k h near (fV k (done.set A' true)+1) (row.foldl (dv h A') out) (done.set A' true)=dr):=by
       refine aa ?_
       have hp:eD k out done=(A':Int):=by unfold eD;exact HA.out
       have this:=hgo.out;rw[iF,if_neg (by rw[hp];omega),hp,Int.toNat_natCast,HROW.out,←jT (by rw[hdl.out];omega) hAR hAD] at this;exact this
      have hund:=jT (N:=k) (by rw[hdl.out];omega) hAR hAD
      have hrowb:∀b∈row,b∈bs∧b.valid k:=by
       intro b hb;have h1:=wN (by rw[HNEAR.out,HROW.out];exact hb:b∈(dz k (bL bs (aq t bs.length))).getD A' []);have h2:=gR (fun q hq=>(ee.1 hq).1) h1.1;exact⟨h2,HV.out b h2⟩
      have hrow4:row.length≤4000:=by
       have h1:(dz k (bL bs (aq t bs.length))).getD A' []=row:=by rw[HNEAR.out];exact HROW.out
       rw[gY hAR] at h1;rw[←h1];have h2:=List.length_filter_le (fun b:Bd=>b.src==(A':Int)) (bL bs (aq t bs.length));have h3:=oO t bs.length
       have h4:(bL bs (aq t bs.length)).length=(aq t bs.length).length:=by simp[bL]
       omega
      have HRB:=aa hrowb;clear hrowb;go_wp2_with fail
      go_loopw [89] (fun i wr2=>∃(q:Nat) (out':List Int),q≤row.length∧i=.int .i64 q∧Hid ((row.take q).foldl (dv h A') out=out')∧Hid (ml out')∧Hid (DSt w wr2 w1.heap.size W.heap.size D k vs near out' (done.set A' true))) (fun i _=>row.length-(intOf i).toNat)
      case atStart=>exact⟨0,out,by omega,rfl,aa rfl,hok,hst'⟩
      case round =>
       obtain⟨q,out',hq,rfl,hF,hok2,hst2⟩:=hrel
       by_cases hlq:q<row.length
       ·have hba:BoundsAt wr ro row:=by
         have:=hst2.out.nr.boundsAt (p:=A') (by omega) HRV.out
         rw[HROW.out] at this;exact this
        obtain⟨b,off,rfl,hbl,hcs⟩:=hba.at hlq;obtain⟨c0,c1,c2,c3⟩:=hcs;have hval:=(HRB.out row[q] (List.getElem_mem hlq)).2;have hpo:=HP.out row[q] (HRB.out row[q] (List.getElem_mem hlq)).1;obtain⟨x,hx⟩:=ag (row[q]);rw[hx] at c0 c1 c2 c3 hval hpo;have HX:=aa hx;have HPO:=aa hpo;clear hx hpo;obtain⟨xs,xd,xm,xr⟩:=x;obtain⟨v1,v2,v3,v4,v5,v6⟩:=hval;simp only at c0 c1 c2 c3 v1 v2 v3 v4 v5 v6;obtain⟨si,rfl⟩:=Int.eq_ofNat_of_zero_le v1;obtain⟨di,rfl⟩:=Int.eq_ofNat_of_zero_le v3;have hnet2:=aa (ac hst2.out.bl hbn HN.out);have bnw:bn<wr.heap.size:=lt_of_block hnet2.out;have sw:w1.heap.size<wr.heap.size:=lt_of_block hst2.out.o
        have ns0:wr.cell? ⟨bn,2+si,none⟩=some (.int .i64 (h.getD si 0)):=by rw[cell_of_row _ _ _ _ _ _ hnet2.out,gP (by rw[HH.out];omega)]
        have nd0:wr.cell? ⟨bn,2+di,none⟩=some (.int .i64 (h.getD di 0)):=by rw[cell_of_row _ _ _ _ _ _ hnet2.out,gP (by rw[HH.out];omega)]
        obtain⟨oa,_⟩:=hst2.out.outCell (i:=A') (by rw[hok2.out.1];omega);obtain⟨od,of⟩:=hst2.out.outCell (i:=di) (by rw[hok2.out.1];omega);have ls:=HL.out si;have ld:=HL.out di;have ra:=hok2.out.2 A';have rd:=hok2.out.2 di;obtain⟨hs,ehs⟩:=ag (h.getD si 0);obtain⟨hd,ehd⟩:=ag (h.getD di 0);obtain⟨va,eva⟩:=ag (out'.getD A' 0);obtain⟨vd,evd⟩:=ag (out'.getD di 0);rw[ehs] at ns0 ls;rw[ehd] at nd0 ld;rw[eva] at oa ra;rw[evd] at od rd;have EHS:=aa ehs;have EHD:=aa ehd;have EVA:=aa eva;have EVD:=aa evd;clear ehs ehd eva evd;unfold aC at ra rd;obtain⟨ra0,ra1⟩:=ra;obtain⟨rd0,rd1⟩:=rd
        have s128:(si:Int)<128:=by omega
        have d128:(di:Int)<128:=by omega
        go_wp2_with fail;obtain⟨W2,hW2⟩:∃W2,W2=wr.alloc (Obj.cells #[.int .i64 si,.int .i64 di,.int .i64 xm,.int .i64 xr] 65):=⟨_,rfl⟩;rw[←hW2];have hst3:=aa (hst2.out.alloc (Obj.cells #[.int .i64 si,.int .i64 di,.int .i64 xm,.int .i64 xr] 65))
        have hy:W2.heap[wr.heap.size]?=some (.cells #[.int .i64 si,.int .i64 di,.int .i64 xm,.int .i64 xr] 65 (0,0)):=by rw[hW2];exact heap_alloc_new _ _
        have y0:W2.cell? ⟨wr.heap.size,0,none⟩=some (.int .i64 si):=bu hy rfl;have y1:W2.cell? ⟨wr.heap.size,1,none⟩=some (.int .i64 di):=bu hy rfl;have y2:W2.cell? ⟨wr.heap.size,2,none⟩=some (.int .i64 xm):=bu hy rfl
        have hbw:Below wr.heap.size wr W2:=by rw[hW2];exact aD
        rw[←hW2] at hst3;have HBW:=aa hbw;clear hW2 hy hbw;have q0:W2.cell? ⟨bn,2+si,none⟩=some (.int .i64 hs):=(HBW.out.cell (by exact bnw)).trans ns0;have q1:W2.cell? ⟨bn,2+di,none⟩=some (.int .i64 hd):=(HBW.out.cell (by exact bnw)).trans nd0;have q2:W2.cell? ⟨w1.heap.size,A',none⟩=some (.int .i64 va):=(HBW.out.cell (by exact sw)).trans oa;have q3:W2.cell? ⟨w1.heap.size,di,none⟩=some (.int .i64 vd):=(HBW.out.cell (by exact sw)).trans od;have q4:W2.frozen? ⟨w1.heap.size,di,none⟩=false:=frozen_of_row _ _ _ _ _ hst3.out.o;clear ns0 nd0 oa od of c0 c1 c2 c3
        go_still_tail 30,(by kernel_rfl)
        change wpList _ _ _ _ _ W2.drew
        go_wp2_with fail;go_roundw
        case rel =>
         refine⟨q+1,_,by omega,by go_num,aa rfl,?_,?_⟩
         ·refine aa ?_
          rw[d9 _ _ _ hlq,hF.out,HX.out];exact mN hok2.out HPO.out
         ·refine aa ?_
          rw[d9 _ _ _ hlq,hF.out,HX.out];unfold dv az;simp only[Int.toNat_natCast,EHS.out,EHD.out,EVA.out,EVD.out];rw[show min vd (va+xm+hs-hd)=(if va+xm+hs-hd<vd then va+xm+hs-hd else vd) from by split<;>omega];exact(hst3.out.setOut _ _).drew
        case measure=>simp[intOf];omega
       ·have hqr:q=row.length:=by omega
        subst hqr;rw[List.take_length] at hF;rw[hF.out] at HDR2
        have hdl2:(done.set A' true).length=128:=by rw[List.length_set];exact hdl.out
        go_wp2_with fail;go_roundg (fV k (done.set A' true))
        case measure=>omega
        case rel=>exact⟨out',done.set A' true,Nat.le_refl _,HDR2,hok2,aa hdl2,hst2⟩
end Go.Proofs.YtkhemfnlflbniaaGreatDoor
namespace Go.Proofs.YtkhemfnlflbniaaGreatDoor
def ew (cur nx:List Int) (b:Bd):List Int :=
 if az cur b.dst<aC then nx.set b.src.toNat (min (az nx b.src) (az cur b.dst+b.most)) else nx
def wu (l:List Bd) (cur:List Int):List Int:=l.foldl (ew cur) (List.replicate 128 aC)
def aI (l:List Bd) (tow:Nat):Nat→List Int
 | 0=>(List.replicate 128 aC).set tow 0
 | k+1=>wu l (aI l tow k)
def aK (l:List Bd) (tow most:Nat):List (List Int):=(List.range (most+1)).map (aI l tow)
theorem ct (l:List Bd) (tow most:Nat):(aK l tow most).length=most+1:=by simp[aK]
theorem bP (l:List Bd) (tow most:Nat) {k:Nat} (hk:k≤most):(aK l tow most).getD k []=aI l tow k:=by
 simp[aK,List.getD_eq_getElem?_getD,show k<most+1 by omega]
theorem ug (l:List Bd) (tow most:Nat):aK l tow (most+1)=aK l tow most++[wu l (aI l tow most)]:=by
 simp only[aK];rw[List.range_succ,List.map_append]
 rfl
def dw (c:Nat) (r:List Int):Prop:=r.length=128∧∀p:Nat,r.getD p 0=aC∨(-((c:Int)*1000000)≤r.getD p 0∧r.getD p 0≤(c:Int)*1000000)
theorem sY (p:Nat):(List.replicate 128 aC).getD p 0=aC∨(List.replicate 128 aC).getD p 0=0:=by
 simp only[List.getD_eq_getElem?_getD,List.getElem?_replicate]
 split
 ·left;rfl
 ·right;rfl
theorem jH (c:Nat):dw c (List.replicate 128 aC):=by
 refine⟨by simp,fun p=>?_⟩
 rcases sY p with e|e
 ·exact .inl e
 ·right;rw[e];omega
theorem sS (tow:Nat):dw 0 ((List.replicate 128 aC).set tow 0):=by
 refine⟨by simp,fun p=>?_⟩;rw[cq]
 split
 ·right;omega
 ·rcases sY p with e|e
  ·exact .inl e
  ·right;rw[e];omega
theorem mm {N:Int} {c:Nat} {cur nx:List Int} {b:Bd} (hb:b.valid N) (hc:dw c cur) (hn:dw (c+1) nx):dw (c+1) (ew cur nx b):=by
 unfold ew
 split
 ·rename_i hlt
  refine⟨by rw[List.length_set];exact hn.1,fun p=>?_⟩;rw[cq];obtain⟨_,_,_,_,v5,v6⟩:=hb;have h1:=hc.2 b.dst.toNat;have h2:=hn.2 b.src.toNat;have h3:=hn.2 p
  unfold az at *
  unfold aC at *
  split
  ·right;omega
  ·exact h3
 ·exact hn
theorem mD {N:Int} {c:Nat} {cur:List Int} (l:List Bd):∀nx,(∀b∈l,b.valid N)→dw c cur→dw (c+1) nx→dw (c+1) (l.foldl (ew cur) nx):=by
 induction l with
 | nil=>intro nx _ _ h;exact h
 | cons b l ih=>intro nx hv hc hn;exact ih _ (fun x hx=>hv x (List.mem_cons_of_mem _ hx)) hc (mm (hv b (List.mem_cons_self ..)) hc hn)
theorem en {N:Int} {l:List Bd} (hv:∀b∈l,b.valid N) (tow k:Nat):dw k (aI l tow k):=by
 induction k with
 | zero=>exact sS tow
 | succ k ih=>exact mD l _ hv ih (jH _)
def fe (bs:List Bd) (gd:Int→Int→Int→Bool) (left:Nat) (at_ sum:Int) (i:Nat):Bool :=
 (bs.getD i cn).src==at_&&gd left (bs.getD i cn).dst (sum+(bs.getD i cn).most)
def bM (bs:List Bd) (ks:List Nat) (gd:Int→Int→Int→Bool):Nat→Int→Int→List Int→Option (List Int)
 | 0,_,_,acc=>some acc
 | left+1,at_,sum,acc =>
   match ks.find? (fe bs gd left at_ sum) with
   | none=>none
   | some i=>bM bs ks gd left (bs.getD i cn).dst (sum+(bs.getD i cn).most) (acc++[(i:Int)])
def cj (bs:List Bd) (ks:List Nat) (gd:Int→Int→Int→Bool) (from_:Int) (many:Nat):List Int:=(bM bs ks gd many from_ 0 []).getD []
theorem pz (t:Nat→Bool) {k n:Nat} (h:k≤n):∃r,aq t n=aq t k++r:=by
 induction n with
 | zero => have : k = 0 := by omega
           subst this;exact⟨[],by simp⟩
 | succ n ih =>
   by_cases e:k=n+1
   ·subst e;exact⟨[],by simp⟩
   ·obtain⟨r,hr⟩:=ih (by omega)
    exact⟨r++(if t n then[n] else[]),by rw[ja,hr,List.append_assoc]⟩
theorem s9 {t p:Nat→Bool} {n k x:Nat} {pre:List Nat} (hk:k≤n) (hp:pre++[x]=aq t k) (hn:∀i∈pre,p i=false) (hx:p x=true):(aq t n).find? p=some x:=by
 obtain⟨r,hr⟩:=pz t hk;rw[hr,←hp,List.append_assoc,List.find?_append,List.find?_eq_none.2 (fun i hi=>by rw[hn i hi];simp)];simp[hx]
theorem mb {t p:Nat→Bool} {n:Nat} (hn:∀i∈aq t n,p i=false):(aq t n).find? p=none:=List.find?_eq_none.2 (fun i hi=>by rw[hn i hi];simp)
def Walk (a b:Int):List Bd→Prop
 | []=>a=b
 | x::l=>x.src=a∧Walk x.dst b l
def aU:List Bd→Int
 | []=>0
 | x::l=>x.most+aU l
def Over (bs l:List Bd):Prop:=∀x∈l,x∈bs
theorem aT (p q:List Bd):aU (p++q)=aU p+aU q:=by
 induction p with
 | nil=>simp[aU]
 | cons x p ih=>simp only[List.cons_append,aU,ih];omega
theorem dH {a c:Int}:∀{p q:List Bd},Walk a c (p++q)↔∃b,Walk a b p∧Walk b c q
 | [],q=>by simp[Walk]
 | x::p,q=>by
   simp only[List.cons_append,Walk,dH (p:=p)]
   constructor
   ·rintro⟨h,b,h1,h2⟩;exact⟨b,⟨h,h1⟩,h2⟩
   ·rintro⟨b,⟨h,h1⟩,h2⟩;exact⟨h,b,h1,h2⟩
theorem Walk.trans {a b c:Int} {p q:List Bd} (h1:Walk a b p) (h2:Walk b c q):Walk a c (p++q):=dH.2 ⟨b,h1,h2⟩
theorem Over.append {bs p q:List Bd} (h1:Over bs p) (h2:Over bs q):Over bs (p++q):=fun x hx=>(List.mem_append.1 hx).elim (h1 x) (h2 x)
theorem Over.left {bs p q:List Bd} (h:Over bs (p++q)):Over bs p:=fun x hx=>h x (List.mem_append_left _ hx)
theorem Over.right {bs p q:List Bd} (h:Over bs (p++q)):Over bs q:=fun x hx=>h x (List.mem_append_right _ hx)
theorem Over.tail {bs q:List Bd} {x:Bd} (h:Over bs (x::q)):Over bs q:=fun y hy=>h y (List.mem_cons_of_mem _ hy)
theorem Over.head {bs q:List Bd} {x:Bd} (h:Over bs (x::q)):x∈bs:=h x (List.mem_cons_self ..)
theorem Over.one {bs:List Bd} {x:Bd} (h:x∈bs):Over bs [x]:=fun y hy=>by rw[List.mem_singleton.1 hy];exact h
theorem Over.nil {bs:List Bd}:Over bs []:=fun y hy=>by cases hy
def au (N:Int) (bs:List Bd):Prop:=∀b∈bs,b.valid N
theorem ow {h:List Int} {bs:List Bd} (hp:yD h bs):∀{a b:Int} {l:List Bd},Walk a b l→Over bs l→az h b-az h a≤aU l
 | a,b,[],hw,_=>by simp only[Walk] at hw;subst hw;simp[aU]
 | a,b,x::l,hw,ho=>by
   have h1:=ow hp hw.2 ho.tail;have h2:=hp x ho.head;rw[hw.1] at h2;simp only[aU];omega
def i7 (bs:List Bd):Prop:=∀a l,Walk a a l→Over bs l→0≤aU l
theorem fE {h:List Int} {bs:List Bd} (hp:yD h bs):i7 bs:=fun a l hw ho=>by have:=ow hp hw ho;omega
theorem vp:∀(N:Nat) (f:Nat→Nat),(∀i,i≤N→f i<N)→∃i j,i<j∧j≤N∧f i=f j
 | 0,f,h=>by have:=h 0 (Nat.le_refl _);omega
 | N+1,f,h=>by
   by_cases hx:∃i,i≤N∧f i=f (N+1)
   ·obtain⟨i,hi,e⟩:=hx
    exact⟨i,N+1,by omega,Nat.le_refl _,e⟩
   ·have hne:∀i,i≤N→f i≠f (N+1):=fun i hi e=>hx ⟨i,hi,e⟩
    have hN:=h (N+1) (Nat.le_refl _)
    obtain⟨i,j,h1,h2,h3⟩:=vp N (fun i=>if f i<f (N+1) then f i else f i-1) (fun i hi=>by
     have a:=hne i hi;have b:=h i (by omega)
     show(if f i<f (N+1) then f i else f i-1)<N
     split<;>omega)
    refine⟨i,j,h1,by omega,?_⟩;have a:=hne i (by omega);have b:=hne j h2;have h4:(if f i<f (N+1) then f i else f i-1)=(if f j<f (N+1) then f j else f j-1):=h3
    split at h4<;>split at h4<;>omega
def gS (a:Int):List Bd→Nat→Int
 | _,0=>a
 | [],_+1=>a
 | x::l,k+1=>gS x.dst l k
theorem eh:∀{a b:Int} {l:List Bd} (k:Nat),k≤l.length→Walk a b l→Walk a (gS a l k) (l.take k)∧Walk (gS a l k) b (l.drop k)
 | a,b,l,0,_,h=>by simp[gS,Walk,h]
 | a,b,[],k+1,hk,h=>by simp at hk
 | a,b,x::l,k+1,hk,h=>by
   have:=eh k (by simpa using hk) h.2;simp only[gS,List.take_succ_cons,List.drop_succ_cons,Walk];exact⟨⟨h.1,this.1⟩,this.2⟩
theorem eU {N:Int} {bs:List Bd} (hv:au N bs):∀{a:Int} {l:List Bd} (k:Nat),0≤a→a<N→Over bs l→0≤gS a l k∧gS a l k<N
 | a,l,0,h0,h1,_=>by cases l<;>exact⟨h0,h1⟩
 | a,[],k+1,h0,h1,_=>⟨h0,h1⟩
 | a,x::l,k+1,h0,h1,ho=>by
   have hx:=hv x ho.head;exact eU hv k hx.2.2.1 hx.2.2.2.1 ho.tail
theorem qg:∀(l:List Bd) (a:Int) (i j:Nat),i≤j→gS a (l.take j) i=gS a l i
 | l,a,0,j,_=>by cases l<;>cases j<;>simp[gS]
 | [],a,i+1,j,_=>by simp
 | x::l,a,i+1,0,h=>by omega
 | x::l,a,i+1,j+1,h=>by
   simp only[List.take_succ_cons,gS];exact qg l x.dst i j (by omega)
theorem jV {N:Nat} {bs:List Bd} (hv:au N bs) {a b:Int} {l:List Bd} (ha0:0≤a) (ha1:a<N) (hw:Walk a b l) (ho:Over bs l) (hl:N≤l.length) :
 ∃p c q x,l=p++c++q∧c≠[]∧Walk a x p∧Walk x x c∧Walk x b q:=by
 obtain⟨i,j,hij,hj,e⟩:=vp N (fun k=>(gS a l k).toNat) (fun k hk=>by have:=eU hv k ha0 ha1 ho;show(gS a l k).toNat<N;omega);have ri:=eU hv i ha0 ha1 ho;have rj:=eU hv j ha0 ha1 ho
 have e2:gS a l i=gS a l j:=by
  have e':(gS a l i).toNat=(gS a l j).toNat:=e;omega
 have sj:=eh j (by omega) hw;have si:=eh (l:=l.take j) (k:=i) (by simp;omega) sj.1;rw[qg l a i j (by omega)] at si;refine⟨(l.take j).take i,(l.take j).drop i,l.drop j,gS a l i,by rw[List.take_append_drop,List.take_append_drop],?_,si.1,?_,?_⟩
 ·intro e3
  have:=congrArg List.length e3
  simp at this;omega
 ·have:=si.2;rw[←e2] at this;exact this
 ·rw[e2];exact sj.2
theorem fR {N:Nat} {bs:List Bd} (hv:au N bs) (hn:i7 bs):∀(n:Nat) {a b:Int} {l:List Bd},l.length≤n→0≤a→a<N→Walk a b l→Over bs l →
 ∃l',Walk a b l'∧Over bs l'∧l'.length<N∧aU l'≤aU l
 | 0,a,b,l,hl,h0,h1,hw,ho=>⟨l,hw,ho,by omega,Int.le_refl _⟩
 | n+1,a,b,l,hl,h0,h1,hw,ho=>by
   by_cases hlt:l.length<N
   ·exact⟨l,hw,ho,hlt,Int.le_refl _⟩
   ·obtain⟨p,c,q,x,e,hc,h2,h3,h4⟩:=jV hv h0 h1 hw ho (by omega)
    subst e;have hcl:0<c.length:=List.length_pos_iff.2 hc;obtain⟨l',g1,g2,g3,g4⟩:=fR hv hn n (l:=p++q) (by simp at hl ⊢;omega) h0 h1 (h2.trans h4) (ho.left.left.append ho.right);have:=hn x c h3 ho.left.right;refine⟨l',g1,g2,g3,?_⟩;rw[aT] at g4;rw[aT,aT];omega
theorem nu (h:List Int) (j i v:Int):az (h.set j.toNat v) i=if i.toNat=j.toNat∧j.toNat<h.length then v else az h i:=by
 unfold az;rw[cq]
theorem sO {s:List Int×Bool} (h:s.2=true) (b:Bd):(bp s b).2=true:=by unfold bp;split<;>first|rfl|exact h
theorem pO:∀(bs:List Bd) (s:List Int×Bool),s.2=true→(bs.foldl bp s).2=true
 | [],_,h=>h
 | b::bs,_s,h=>pO bs _ (sO h b)
theorem oJ:∀(bs:List Bd) (s:List Int×Bool),(bs.foldl bp s).2=false→(bs.foldl bp s).1=s.1∧∀b∈bs,az s.1 b.dst≤az s.1 b.src+b.most
 | [],s,_=>⟨rfl,fun b hb=>by cases hb⟩
 | b::bs,s,h=>by
   simp only[List.foldl_cons] at h ⊢
   by_cases hlt:az s.1 b.src+b.most<az s.1 b.dst
   ·rw[pO bs _ (by unfold bp;rw[if_pos hlt])] at h;cases h
   ·have e:bp s b=s:=by unfold bp;rw[if_neg hlt]
    rw[e] at h ⊢;obtain⟨h1,h2⟩:=oJ bs s h;refine⟨h1,fun x hx=>?_⟩
    rcases List.mem_cons.1 hx with rfl|hx
    ·omega
    ·exact h2 x hx
theorem nw:∀(bs:List Bd) (s:List Int×Bool),(∀b∈bs,az s.1 b.dst≤az s.1 b.src+b.most)→bs.foldl bp s=s
 | [],_,_=>rfl
 | b::bs,s,h=>by
   have e:bp s b=s:=by unfold bp;rw[if_neg (by have:=h b (List.mem_cons_self ..);omega)]
   rw[List.foldl_cons,e];exact nw bs s (fun x hx=>h x (List.mem_cons_of_mem _ hx))
theorem ku {bs:List Bd}:∀(r:Nat) (h h':List Int),bV bs r h=some h'→yD h' bs
 | 0,_,_,e=>by simp[bV] at e
 | r+1,h,h',e=>by
   simp only[bV] at e
   split at e
   ·exact ku r _ _ e
   ·rename_i hf
    have hf':(gM bs h).2=false:=by simpa using hf
    obtain⟨h1,h2⟩:=oJ bs (h,false) hf';simp only[Option.some.injEq] at e
    have e1:h'=h:=by rw[←e];exact h1
    subst e1;intro b hb;have:=h2 b hb;simp only at this;omega
theorem mU {N:Int} {bs:List Bd} {h:List Int} (e:aG N bs=some h):yD h bs:=ku _ _ _ e
theorem oL {N:Int} {bs:List Bd} {h:List Int} (e:aG N bs=some h):h.length=128:=by
 have:=iI _ _ _ e;simpa using this
theorem s6 {N:Int} {bs:List Bd} {h:List Int} (hv:au N bs) (e:aG N bs=some h):LowBy ((N+1).toNat*bs.length) h:=by
 have:=rh hv _ 0 _ _ (mF 128) e;simpa using this
def qq (N:Int) (bs:List Bd) (h:List Int):Prop:=∀v,0≤v→v<N→∃a l,0≤a∧a<N∧Walk a v l∧Over bs l∧aU l=az h v
def AA (N:Int) (bs:List Bd) (k:Nat) (h:List Int):Prop:=∀a v l,0≤a→a<N→Walk a v l→Over bs l→l.length≤k→az h v≤aU l
theorem qj (s:List Int×Bool) (b:Bd) (v:Int):az (bp s b).1 v≤az s.1 v:=by
 unfold bp
 split
 ·rename_i hlt
  show az (s.1.set b.dst.toNat _) v≤_
  rw[nu]
  split
  ·rename_i e
   have:az s.1 v=az s.1 b.dst:=by unfold az;rw[e.1]
   omega
  ·exact Int.le_refl _
 ·exact Int.le_refl _
theorem qH:∀(bs:List Bd) (s:List Int×Bool) (v:Int),az (bs.foldl bp s).1 v≤az s.1 v
 | [],_,_=>Int.le_refl _
 | b::bs,s,v=>Int.le_trans (qH bs _ v) (qj s b v)
theorem sW {N:Int} {s:List Int×Bool} {b:Bd} (hb:b.valid N) (hN:N≤128) (hl:s.1.length=128):az (bp s b).1 b.dst≤az s.1 b.src+b.most:=by
 unfold bp
 split
 ·show az (s.1.set b.dst.toNat _) _≤_
  obtain⟨_,_,v3,v4,_⟩:=hb;rw[nu,if_pos ⟨rfl,by omega⟩];exact Int.le_refl _
 ·omega
theorem p9 {N:Int} (hN:N≤128):∀(bs:List Bd) (s:List Int×Bool),au N bs→s.1.length=128→∀b∈bs,az (bs.foldl bp s).1 b.dst≤az s.1 b.src+b.most
 | [],_,_,_,b,hb=>by cases hb
 | x::bs,s,hv,hl,b,hb=>by
   rw[List.foldl_cons]
   rcases List.mem_cons.1 hb with rfl|hb
   ·exact Int.le_trans (qH bs _ _) (sW (hv b (List.mem_cons_self ..)) hN hl)
   ·have:=p9 hN bs (bp s x) (fun y hy=>hv y (List.mem_cons_of_mem _ hy)) (by rw[jC];exact hl) b hb
    have:=qj s x b.src;omega
theorem qh {a v:Int} {p:List Bd} {x:Bd} (h:Walk a v (p++[x])):Walk a x.src p∧v=x.dst:=by
 obtain⟨b,h1,h2⟩:=dH.1 h;simp only[Walk] at h2;exact⟨by rw[h2.1];exact h1,h2.2.symm⟩
theorem vG {N:Int} {bs:List Bd} {k:Nat} {h:List Int} (hN:N≤128) (hv:au N bs) (hl:h.length=128) (H:AA N bs k h):AA N bs (k+1) (gM bs h).1:=by
 intro a v l h0 h1 hw ho hlen
 rcases List.eq_nil_or_concat l with rfl|⟨p,x,rfl⟩
 ·exact Int.le_trans (qH bs (h,false) v) (H a v [] h0 h1 hw ho (by simp))
 ·rw[List.concat_eq_append] at hw ho hlen ⊢
  obtain⟨w1,rfl⟩:=qh hw;have hx:x∈bs:=ho x (by simp);have s1:=p9 hN bs (h,false) hv hl x hx;have s2:=H a x.src p h0 h1 w1 ho.left (by simp at hlen;omega);simp only at s1;rw[aT];simp only[aU]
  show az (bs.foldl bp (h,false)).1 x.dst≤_
  omega
theorem qJ {N:Int} {bs:List Bd} {s:List Int×Bool} {b:Bd} (hv:au N bs) (hb:b∈bs) (H:qq N bs s.1):qq N bs (bp s b).1:=by
 unfold bp
 split
 ·intro v h0 h1
  show ∃a l,0≤a∧a<N∧Walk a v l∧Over bs l∧aU l=az (s.1.set b.dst.toNat _) v
  rw[nu];obtain⟨v1,v2,v3,v4,_⟩:=hv b hb
  split
  ·rename_i e
   have e1:v=b.dst:=by omega
   subst e1;obtain⟨a,l,a0,a1,hw,ho,hs⟩:=H b.src v1 v2;refine⟨a,l++[b],a0,a1,hw.trans ⟨rfl,rfl⟩,ho.append (Over.one hb),?_⟩
   rw[aT,hs];simp[aU]
  ·exact H v h0 h1
 ·exact H
theorem oY {N:Int} {bs:List Bd} (hv:au N bs):∀(cs:List Bd) (s:List Int×Bool),(∀c∈cs,c∈bs)→qq N bs s.1→qq N bs (cs.foldl bp s).1
 | [],_,_,H=>H
 | c::cs,_s,hc,H=>oY hv cs _ (fun x hx=>hc x (List.mem_cons_of_mem _ hx)) (qJ hv (hc c (List.mem_cons_self ..)) H)
theorem xE {N:Nat} {bs:List Bd} {k:Nat} {h:List Int} (hv:au N bs) (hn:i7 bs) (hk:N≤k+1) (HR:qq N bs h) (HL:AA N bs k h):∀b∈bs,az h b.dst≤az h b.src+b.most:=by
 intro b hb;obtain⟨v1,v2,v3,v4,_⟩:=hv b hb;obtain⟨a,l,a0,a1,hw,ho,hs⟩:=HR b.src v1 v2;obtain⟨l',g1,g2,g3,g4⟩:=fR hv hn (l++[b]).length (l:=l++[b]) (Nat.le_refl _) a0 a1 (hw.trans ⟨rfl,rfl⟩) (ho.append (Over.one hb));have:=HL a b.dst l' a0 a1 g1 g2 (by omega);rw[aT,hs] at g4;simp only[aU] at g4;omega
theorem jD {N:Nat} {bs:List Bd} (hN:N≤128) (hv:au N bs) (hn:i7 bs):∀(r k:Nat) (h:List Int),1≤r→N≤k+r→h.length=128→qq N bs h→AA N bs k h→∃h',bV bs r h=some h'
 | 0,_,_,h1,_,_,_,_=>by omega
 | r+1,k,h,_,hk,hl,HR,HL=>by
   simp only[bV]
   split
   ·rename_i hf
    by_cases hr:r=0
    ·have:=nw bs (h,false) (xE hv hn (by omega) HR HL)
     rw[gM,this] at hf;cases hf
    ·exact jD hN hv hn r (k+1) _ (by omega) (by omega) (by unfold gM;rw[fB];exact hl) (oY hv bs (h,false) (fun _ hc=>hc) HR) (vG (by omega) hv hl HL)
   ·exact⟨_,rfl⟩
theorem qp (v:Int):az (List.replicate 128 0) v=0:=by
 unfold az;simp only[List.getD_eq_getElem?_getD,List.getElem?_replicate]
 split<;>rfl
theorem rD {N:Nat} {bs:List Bd} (hN:N≤128) (hv:au N bs) (hn:i7 bs):∃h,aG N bs=some h:=by
 unfold aG;refine jD hN hv hn _ 0 _ (by omega) (by omega) (by simp) ?_ ?_
 ·intro v h0 h1
  exact⟨v,[],h0,h1,rfl,Over.nil,by rw[qp];rfl⟩
 ·intro a v l h0 h1 hw ho hlen
  have:l=[]:=List.length_eq_zero_iff.1 (by omega);subst this
  rw[qp];simp[aU]
theorem mg {N:Nat} {bs:List Bd} (hN:N≤128) (hv:au N bs):(aG N bs).isSome=true↔i7 bs:=by
 constructor
 ·intro h
  obtain⟨t,ht⟩:=Option.isSome_iff_exists.1 h;exact fE (mU ht)
 ·intro h
  obtain⟨t,ht⟩:=rD hN hv h
  rw[ht];rfl
def j7 (l:List Bd) (a b d:Int):Prop:=(∃p,Walk a b p∧Over l p∧aU p=d)∧∀p,Walk a b p→Over l p→d≤aU p
def zo (l:List Bd) (a b:Int):Prop:=∀p,Walk a b p→¬Over l p
def wM (N:Nat) (l:List Bd) (a:Int) (r:List Int):Prop :=
 r.length=128∧∀v:Nat,v<N→(r.getD v 0<aC∧j7 l a v (r.getD v 0))∨(r.getD v 0=aC∧zo l a v)
theorem rG {N:Int} {bs:List Bd} (hv:au N bs):∀{l:List Bd},Over bs l→-((l.length:Int)*1000000)≤aU l∧aU l≤(l.length:Int)*1000000
 | [],_=>by simp[aU]
 | x::l,ho=>by
   have h1:=rG hv (l:=l) ho.tail;obtain⟨_,_,_,_,h2,h3⟩:=hv x ho.head;simp only[aU,List.length_cons];omega
theorem mf {N:Nat} {bs:List Bd} (hv:au N bs) (hn:i7 bs) {a b d:Int} (h0:0≤a) (h1:a<N) (h:j7 bs a b d):-((N:Int)*1000000)≤d∧d≤(N:Int)*1000000:=by
 obtain⟨⟨p,p1,p2,p3⟩,h2⟩:=h;obtain⟨q,q1,q2,q3,q4⟩:=fR hv hn p.length (Nat.le_refl _) h0 h1 p1 p2;have:=h2 q q1 q2;have:=rG hv q2;omega
def iJ (h:List Int):List Bd→Int
 | []=>0
 | x::l=>(x.most+az h x.src-az h x.dst)+iJ h l
theorem q9 (h:List Int):∀{a b:Int} {l:List Bd},Walk a b l→iJ h l=aU l+az h a-az h b
 | a,b,[],hw=>by simp only[Walk] at hw;subst hw;simp[iJ,aU]
 | a,b,x::l,hw=>by
   have:=q9 h hw.2;rw[←hw.1];simp only[iJ,aU];omega
theorem mE (h:List Int) (p q:List Bd):iJ h (p++q)=iJ h p+iJ h q:=by
 induction p with
 | nil=>simp[iJ]
 | cons x p ih=>simp only[List.cons_append,iJ,ih];omega
structure xH (N:Nat) (h:List Int) (l:List Bd) (a:Nat) (out:List Int) (done:List Bool):Prop where
 ok:ml out
 dl:done.length=128
 here:out.getD a 0=0
 path:∀v:Nat,v<N→out.getD v 0<aC→∃p,Walk a v p∧Over l p∧iJ h p=out.getD v 0
 relaxed:∀b∈l,done.getD b.src.toNat false=true→az out b.dst≤az out b.src+(b.most+az h b.src-az h b.dst)
 first:∀p q:Nat,q<N→done.getD p false=true→done.getD q false=false→out.getD p 0≤out.getD q 0
 near:∀p:Nat,done.getD p false=true→out.getD p 0<aC
theorem bQ (r:List Int) (v:Nat):r.getD v 0=az r (v:Int):=by unfold az;rw[Int.toNat_natCast]
theorem nX (out:List Int) (done:List Bool):∀(l:List Nat) (pre:List Nat) (at_:Int),
 (at_<0∧(∀p∈pre,done.getD p false=true∨aC≤out.getD p 0))∨(0≤at_∧∀p∈pre,done.getD p false=true∨aC≤out.getD p 0∨az out at_≤out.getD p 0) →
 (l.foldl (cE out done) at_<0∧(∀p∈pre++l,done.getD p false=true∨aC≤out.getD p 0))∨(0≤l.foldl (cE out done) at_∧∀p∈pre++l,done.getD p false=true∨aC≤out.getD p 0∨az out (l.foldl (cE out done) at_)≤out.getD p 0)
 | [],pre,at_,H=>by simpa using H
 | x :: l, pre, at_, H => by
   have key:(cE out done at_ x<0∧(∀p∈pre++[x],done.getD p false=true∨aC≤out.getD p 0))∨(0≤cE out done at_ x∧∀p∈pre++[x],done.getD p false=true∨aC≤out.getD p 0∨az out (cE out done at_ x)≤out.getD p 0):=by
    unfold cE
    split
    ·rename_i h
     right
     refine⟨by omega,fun p hp=>?_⟩;have e:az out (x:Int)=out.getD x 0:=(bQ out x).symm;rw[e]
     rcases List.mem_append.1 hp with hp|hp
     ·rcases H with ⟨h1,h2⟩|⟨h1,h2⟩
      ·rcases h2 p hp with q|q
       ·exact .inl q
       ·exact .inr (.inl q)
      ·rcases h2 p hp with q|q|q
       ·exact .inl q
       ·exact .inr (.inl q)
       ·right;right
        rcases h.2.2 with h3|h3<;>omega
     ·rw[List.mem_singleton.1 hp];right;right;exact Int.le_refl _
    ·rename_i h
     have hx:done.getD x false=true∨aC≤out.getD x 0∨(0≤at_∧az out at_≤out.getD x 0):=by
      by_cases h1:done.getD x false=true
      ·exact .inl h1
      ·have h1':done.getD x false=false:=by simpa using h1
       by_cases h2:out.getD x 0<aC
       ·right;right
        have:¬(at_<0∨out.getD x 0<az out at_):=fun h3=>h ⟨h1',h2,h3⟩
        omega
       ·right;left;omega
     rcases H with ⟨h1,h2⟩|⟨h1,h2⟩
     ·left
      refine⟨h1,fun p hp=>?_⟩
      rcases List.mem_append.1 hp with hp|hp
      ·exact h2 p hp
      ·rw[List.mem_singleton.1 hp]
       rcases hx with q|q|q
       ·exact .inl q
       ·exact .inr q
       ·omega
     ·right
      refine⟨h1,fun p hp=>?_⟩
      rcases List.mem_append.1 hp with hp|hp
      ·exact h2 p hp
      ·rw[List.mem_singleton.1 hp]
       rcases hx with q|q|q
       ·exact .inl q
       ·exact .inr (.inl q)
       ·exact .inr (.inr q.2)
   have:=nX out done l (pre++[x]) _ key;simpa [List.append_assoc] using this
theorem mJ (N:Nat) (out:List Int) (done:List Bool) :
 (eD N out done<0∧∀p,p<N→done.getD p false=true∨aC≤out.getD p 0)∨(0≤eD N out done∧∀p,p<N→done.getD p false=true∨aC≤out.getD p 0∨az out (eD N out done)≤out.getD p 0):=by
 have:=nX out done (List.range N) [] (-1) (.inl ⟨by omega,fun p hp=>by cases hp⟩);simpa [eD] using this
theorem vL {h:List Int} {at_:Nat} {out:List Int} {b:Bd} (hl:out.length=128) (hd0:0≤b.dst) (hd1:b.dst<128) (v:Nat) :
 (dv h at_ out b).getD v 0=if v=b.dst.toNat then min (out.getD v 0) (out.getD at_ 0+(b.most+az h b.src-az h b.dst)) else out.getD v 0:=by
 unfold dv;rw[cq]
 by_cases e:v=b.dst.toNat
 ·subst e
  rw[if_pos ⟨rfl,by omega⟩,if_pos rfl];unfold az;omega
 ·rw[if_neg (fun h=>e h.1),if_neg e]
structure vI (N:Nat) (h:List Int) (l:List Bd) (a:Nat) (at_:Nat) (o0:List Int) (done:List Bool) (pre:List Bd) (out:List Int):Prop where
 ok:ml out
 le:∀v:Nat,out.getD v 0≤o0.getD v 0
 ge:∀v:Nat,o0.getD v 0=out.getD v 0∨o0.getD at_ 0≤out.getD v 0
 path:∀v:Nat,v<N→out.getD v 0<aC→∃p,Walk a v p∧Over l p∧iJ h p=out.getD v 0
 done_:∀b∈pre,az out b.dst≤az out b.src+(b.most+az h b.src-az h b.dst)
theorem mO {N:Nat} {h:List Int} {l:List Bd} {a at_:Nat} {o0:List Int} {done:List Bool} (hN:N≤128) (hat:at_<N) (hv:au N l) (hp:yD h l) (hfar:o0.getD at_ 0<aC) :
 ∀(cs pre:List Bd) (out:List Int),(∀b∈cs,b∈l∧b.src=at_)→(∀b∈pre,b.src=at_)→vI N h l a at_ o0 done pre out→vI N h l a at_ o0 done (pre++cs) (cs.foldl (dv h at_) out)
 | [],pre,out,_,_,H=>by simpa using H
 | b::cs,pre,out,hc,hpre,H=>by
   obtain⟨hb,hs⟩:=hc b (List.mem_cons_self ..);obtain⟨v1,v2,v3,v4,v5,v6⟩:=hv b hb;have hpb:=hp b hb;have hl:=H.ok.1;have hget:=vL (h:=h) (at_:=at_) (b:=b) hl v3 (by omega)
   have hat0:out.getD at_ 0=o0.getD at_ 0:=by
    have:=H.le at_
    rcases H.ge at_ with e|e
    ·exact e.symm
    ·omega
   have hsrc:az (dv h at_ out b) b.src=o0.getD at_ 0:=by
    rw[hs,←bQ,hget]
    split
    ·omega
    ·exact hat0
   have key:vI N h l a at_ o0 done (pre++[b]) (dv h at_ out b):=by
    refine⟨mN H.ok hpb,fun v=>?_,fun v=>?_,fun v hvN hlt=>?_,fun x hx=>?_⟩
    ·rw[hget];have:=H.le v;split<;>omega
    ·rw[hget]
     have:=H.ge v
     split<;>omega
    ·rw[hget] at hlt ⊢
     split at hlt
     ·rename_i e
      rw[if_pos e]
      by_cases hm:out.getD v 0≤out.getD at_ 0+(b.most+az h b.src-az h b.dst)
      ·rw[Int.min_eq_left hm]
       exact H.path v hvN (by omega)
      ·rw[Int.min_eq_right (by omega)]
       obtain⟨p,p1,p2,p3⟩:=H.path at_ hat (by omega);refine⟨p++[b],p1.trans ⟨hs,by show b.dst=_;omega⟩,p2.append (Over.one hb),?_⟩;rw[mE,p3];simp[iJ]
     ·rename_i e
      rw[if_neg e];exact H.path v hvN hlt
    ·rcases List.mem_append.1 hx with hx|hx
     ·have h1:=H.done_ x hx
      have e1:az (dv h at_ out b) x.src=az out x.src:=by
       rw[hpre x hx,←bQ,←bQ];have:=hsrc;rw[hs,←bQ] at this;rw[this,hat0]
      have e2:az (dv h at_ out b) x.dst≤az out x.dst:=by
       show(dv h at_ out b).getD x.dst.toNat 0≤out.getD x.dst.toNat 0
       rw[hget];split<;>omega
      omega
     ·rw[List.mem_singleton.1 hx,hsrc]
      show(dv h at_ out b).getD b.dst.toNat 0≤_
      rw[hget,if_pos rfl];omega
   have:=mO hN hat hv hp hfar cs (pre++[b]) _ (fun x hx=>hc x (List.mem_cons_of_mem _ hx)) (fun x hx=>(List.mem_append.1 hx).elim (hpre x) (fun h=>by rw[List.mem_singleton.1 h];exact hs)) key;simpa [List.append_assoc] using this
theorem g8 (d:List Bool) (j i:Nat) (v:Bool):(d.set j v).getD i false=if i=j∧j<d.length then v else d.getD i false:=by
 simp only[List.getD_eq_getElem?_getD,List.getElem?_set]
 by_cases e:j=i
 ·subst e
  by_cases hl:j<d.length
  ·simp[hl]
  ·simp[hl]
 ·simp[e,Ne.symm e]
theorem wV {N:Nat} {h:List Int} {l:List Bd} {a:Nat} {out:List Int} {done:List Bool} (hN:N≤128) (hv:au N l) (hp:yD h l) (H:xH N h l a out done) {k:Nat} (hk:eD N out done=(k:Int)) :
 xH N h l a ((l.filter fun b=>b.src==(k:Int)).foldl (dv h k) out) (done.set k true)∧k<N∧done.getD k false=false:=by
 have hr:=th N out done;have hle:=mJ N out done;rw[hk] at hr hle
 rcases hr with hr|⟨r1,r2,r3⟩
 ·omega
 rw[Int.toNat_natCast] at r1 r2 r3
 rcases hle with ⟨hle,_⟩|⟨_,hle⟩
 ·omega
 rw[←bQ] at hle
 have R:=mO (a:=a) (done:=done) hN r1 hv hp r3 (l.filter fun b=>b.src==(k:Int)) [] out (fun b hb=>by simpa using List.mem_filter.1 hb) (fun b hb=>by cases hb)
  ⟨H.ok,fun v=>Int.le_refl _,fun v=>.inl rfl,H.path,fun b hb=>by cases hb⟩
 rw[List.nil_append] at R;obtain⟨o,ho⟩:=ag ((l.filter fun b=>b.src==(k:Int)).foldl (dv h k) out);rw[ho] at R ⊢
 have same:∀p:Nat,done.getD p false=true→o.getD p 0=out.getD p 0:=by
  intro p hpd
  have h1:=H.first p k r1 hpd r2
  have h2:=R.le p
  rcases R.ge p with e|e<;>omega
 have samek:o.getD k 0=out.getD k 0:=by
  have h2:=R.le k
  rcases R.ge k with e|e<;>omega
 refine⟨⟨R.ok,by simpa using H.dl,?_,R.path,?_,?_,?_⟩,r1,r2⟩
 ·have h1:=R.le a
  have h2:=(R.ok.2 a).1;rw[H.here] at h1;omega
 ·intro b hb hd
  obtain⟨v1,v2,v3,v4,v5,v6⟩:=hv b hb
  by_cases e:b.src=(k:Int)
  ·exact R.done_ b (List.mem_filter.2 ⟨hb,by simpa using e⟩)
  ·have hd':done.getD b.src.toNat false=true:=by
    rw[g8] at hd
    split at hd
    ·omega
    ·exact hd
   have h1:=H.relaxed b hb hd';have h2:az o b.src=az out b.src:=same _ hd';have h3:az o b.dst≤az out b.dst:=R.le _;omega
 ·intro p q hqN hpd hqd
  rw[g8] at hpd hqd
  have hkl:k<done.length:=by rw[H.dl];omega
  have hqk:q≠k:=by
   intro e;rw[if_pos ⟨e,hkl⟩] at hqd;cases hqd
  rw[if_neg (fun e=>hqk e.1)] at hqd
  by_cases e:p=k
  ·subst e
   rw[samek]
   rcases R.ge q with e|e
   ·rw[←e]
    rcases hle q hqN with x|x|x
    ·rw[x] at hqd;cases hqd
    ·omega
    ·exact x
   ·exact e
  ·rw[if_neg (fun x=>e x.1)] at hpd
   rw[same p hpd]
   rcases R.ge q with e|e
   ·rw[←e];exact H.first p q hqN hpd hqd
   ·have:=H.first p k r1 hpd r2;omega
 ·intro p hpd
  rw[g8] at hpd
  by_cases e:p=k
  ·subst e;rw[samek];exact r3
  ·rw[if_neg (fun x=>e x.1)] at hpd
   rw[same p hpd];exact H.near p hpd
theorem mG {N:Nat} {h:List Int} {l:List Bd} {a:Nat} (hN:N≤128) (hv:au N l) (hp:yD h l):∀(f:Nat) (out:List Int) (done:List Bool),fV N done<f→xH N h l a out done →
 ∃done',xH N h l a (iF N h (dz N l) f out done) done'∧eD N (iF N h (dz N l) f out done) done'<0
 | 0,_,_,hf,_=>by omega
 | f+1,out,done,hf,H=>by
   simp only[iF]
   by_cases hk:eD N out done<0
   ·rw[if_pos hk];exact⟨done,H,hk⟩
   ·rw[if_neg hk]
    obtain⟨k,hkk⟩:=Int.eq_ofNat_of_zero_le (Int.not_lt.1 hk);obtain⟨h1,h2,h3⟩:=wV hN hv hp H hkk;rw[hkk,Int.toNat_natCast,gY h2];refine mG hN hv hp f _ _ ?_ h1;have:=jT (N:=N) (by rw[H.dl];omega) h2 h3;omega
theorem tv {N:Nat} {h:List Int} {l:List Bd} {a:Nat} {out:List Int} {done:List Bool} (hv:au N l) (hp:yD h l) (H:xH N h l a out done) (hk:eD N out done<0) :
 ∀(n:Nat) (q:List Bd) (v:Int),q.length≤n→Walk a v q→Over l q→iJ h q<aC→az out v≤iJ h q
 | n, q, v, hn, hw, ho, hs => by
   rcases List.eq_nil_or_concat q with rfl|⟨p,b,rfl⟩
   ·simp only[Walk] at hw
    subst hw
    rw[←bQ,H.here];simp[iJ]
   ·rw[List.concat_eq_append] at hw ho hs hn ⊢
    cases n with
    | zero=>simp at hn
    | succ n =>
      obtain⟨w1,rfl⟩:=qh hw;have hb:b∈l:=ho b (by simp);have hpb:=hp b hb;obtain⟨v1,v2,_⟩:=hv b hb;rw[mE] at hs ⊢;simp only[iJ] at hs ⊢;have ih:=tv hv hp H hk n p b.src (by simp at hn;omega) w1 ho.left (by omega)
      have hd:done.getD b.src.toNat false=true:=by
       rcases mJ N out done with ⟨_,h2⟩|⟨h2,_⟩
       ·rcases h2 b.src.toNat (by omega) with x|x
        ·exact x
        ·have:az out b.src=out.getD b.src.toNat 0:=rfl
         omega
       ·omega
      have:=H.relaxed b hb hd;omega
theorem sU {h:List Int} {a:Int} {out:List Int} (hl:out.length=128):∀(k:Nat),k≤128→((List.range k).foldl (gG h a) out).length=128∧∀v:Nat,((List.range k).foldl (gG h a) out).getD v 0=if v<k∧out.getD v 0<aC then out.getD v 0+(h.getD v 0-az h a) else out.getD v 0
 | 0,_=>⟨hl,fun v=>by simp⟩
 | k+1,hk=>by
   obtain⟨ih1,ih2⟩:=sU hl k (by omega);rw[List.range_succ,List.foldl_append];simp only[List.foldl_cons,List.foldl_nil];obtain⟨o,ho⟩:=ag ((List.range k).foldl (gG h a) out);rw[ho] at ih1 ih2 ⊢;unfold gG;have hk0:=ih2 k;rw[if_neg (by omega)] at hk0
   split
   ·rename_i hlt
    refine⟨by simpa using ih1,fun v=>?_⟩;rw[cq,ih2 v]
    by_cases e:v=k
    ·subst e
     rw[if_pos ⟨rfl,by omega⟩,if_pos ⟨by omega,by omega⟩,hk0]
    ·rw[if_neg (fun x=>e x.1)]
     by_cases hv:v<k
     ·by_cases hf:out.getD v 0<aC
      ·rw[if_pos ⟨hv,hf⟩,if_pos ⟨by omega,hf⟩]
      ·rw[if_neg (fun x=>hf x.2),if_neg (fun x=>hf x.2)]
     ·rw[if_neg (fun x=>hv x.1),if_neg (by omega)]
   ·rename_i hlt
    refine⟨ih1,fun v=>?_⟩;rw[ih2 v]
    by_cases e:v=k
    ·subst e
     rw[if_neg (by omega),if_neg (by omega)]
    ·by_cases hv:v<k
     ·by_cases hf:out.getD v 0<aC
      ·rw[if_pos ⟨hv,hf⟩,if_pos ⟨by omega,hf⟩]
      ·rw[if_neg (fun x=>hf x.2),if_neg (fun x=>hf x.2)]
     ·rw[if_neg (fun x=>hv x.1),if_neg (by omega)]
theorem yi {N:Nat} {h:List Int} {l:List Bd} {a:Nat} (hN:N≤128) (ha:a<N) (hv:au N l) (hp:yD h l) (hlow:LowBy 520000 h):wM N l a (dW N h l a):=by
 have hn:=fE hp
 have H0:xH N h l a ((List.replicate 128 aC).set a 0) (List.replicate 128 false):=by
  have hget:∀v:Nat,((List.replicate 128 aC).set a 0).getD v 0=if v=a then 0 else if v<128 then aC else 0:=by
   intro v;rw[cq];simp only[List.length_replicate]
   by_cases e:v=a
   ·rw[if_pos ⟨e,by omega⟩,if_pos e]
   ·rw[if_neg (fun x=>e x.1),if_neg e]
    simp only[List.getD_eq_getElem?_getD,List.getElem?_replicate]
    split<;>rfl
  have hno:∀p:Nat,(List.replicate 128 false).getD p false=false:=by
   intro p;simp only[List.getD_eq_getElem?_getD,List.getElem?_replicate]
   split<;>rfl
  refine⟨?_,by simp,by rw[hget,if_pos rfl],?_,?_,?_,?_⟩
  ·have:=mv (a:=(a:Int));rwa [Int.toNat_natCast] at this
  ·intro v hvN hlt
   rw[hget] at hlt ⊢
   by_cases e:v=a
   ·subst e;exact⟨[],rfl,Over.nil,by rw[if_pos rfl];rfl⟩
   ·rw[if_neg e,if_pos (by omega)] at hlt;omega
  ·intro b _ hd;rw[hno] at hd;cases hd
  ·intro p q _ hd;rw[hno] at hd;cases hd
  ·intro p hd;rw[hno] at hd;cases hd
 obtain⟨done,H,hk⟩:=mG (a:=a) hN hv hp (N+1) _ _ (by have:=xQ N (List.replicate 128 false);omega) H0;unfold dW wn;rw[Int.toNat_natCast];obtain⟨out,ho⟩:=ag (iF N h (dz N l) (N+1) ((List.replicate 128 aC).set a 0) (List.replicate 128 false));rw[ho] at H hk ⊢;obtain⟨b1,b2⟩:=sU (h:=h) (a:=(a:Int)) H.ok.1 N hN;refine⟨b1,fun v hvN=>?_⟩;rw[b2 v];have la:=hlow a;have lv:=hlow v;have ea:az h (a:Int)=h.getD a 0:=(bQ h a).symm;have ev:az h (v:Int)=h.getD v 0:=(bQ h v).symm
 have short:∀q,Walk a v q→Over l q→∃q',Walk a v q'∧Over l q'∧aU q'≤aU q∧iJ h q'=aU q'+h.getD a 0-h.getD v 0∧-((128:Int)*1000000)≤aU q'∧aU q'≤(128:Int)*1000000:=by
  intro q hw ho;obtain⟨q',g1,g2,g3,g4⟩:=fR hv hn q.length (Nat.le_refl _) (by omega) (by omega) hw ho;have:=rG hv g2;have:=q9 h g1;rw[ea,ev] at this;exact⟨q',g1,g2,g4,this,by omega,by omega⟩
 have low:∀q,Walk a v q→Over l q→∃q',Walk a v q'∧Over l q'∧aU q'≤aU q∧out.getD v 0≤aU q'+h.getD a 0-h.getD v 0∧aU q'+h.getD a 0-h.getD v 0<aC:=by
  intro q hw ho;obtain⟨q',g1,g2,g3,g4,g5,g6⟩:=short q hw ho
  have hb:iJ h q'<aC:=by unfold aC;omega
  have:=tv hv hp H hk q'.length q' v (Nat.le_refl _) g1 g2 hb;rw[←bQ] at this;exact⟨q',g1,g2,g3,by omega,by omega⟩
 by_cases hlt:out.getD v 0<aC
 ·left
  rw[if_pos ⟨hvN,hlt⟩,ea];obtain⟨p,p1,p2,p3⟩:=H.path v hvN hlt;have e3:=q9 h p1;rw[ea,ev] at e3
  have hd:j7 l a v (out.getD v 0+(h.getD v 0-h.getD a 0)):=by
   refine⟨⟨p,p1,p2,by omega⟩,fun q hw ho=>?_⟩;obtain⟨q',_,_,g3,g4,_⟩:=low q hw ho;omega
  refine⟨?_,hd⟩;have:=mf hv hn (by omega) (by omega) hd;unfold aC;omega
 ·right
  rw[if_neg (fun x=>hlt x.2)];have:=(H.ok.2 v).2;refine⟨by omega,fun q hw ho=>?_⟩;obtain⟨q',_,_,_,g4,g5⟩:=low q hw ho;omega
structure Fr where
 s:Int
 ok:Bool
def o6:Fr:=⟨0,false⟩
def qT (a b:Fr):Fr:=if a.ok=false∨(b.ok=true∧b.s<a.s) then b else a
def y9 (a:Fr) (n:Int):Fr:=⟨a.s+n,a.ok⟩
end Go.Proofs.YtkhemfnlflbniaaGreatDoor
