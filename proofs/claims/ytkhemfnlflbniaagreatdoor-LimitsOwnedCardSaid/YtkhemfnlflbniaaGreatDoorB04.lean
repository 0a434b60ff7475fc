/- Merged text 4 of the base: Wk, Wl, Wl2, Wm2, Wp, Sh, Ws, Wt, Wr. No conditions beyond those stated. -/
import Derived.Test.YtkhemfnlflbniaaGreatDoorB03
import Derived.Test.YtkhemfnlflbniaaGreatDoorB02
import Derived.WalkMore
import Derived.Deep.MidRow
import Derived.Deep.RegionHeld3
import Derived.Deep.DeepCutAuto
import Derived.Shelf.Small.Bits
import Derived.Shelf.Strconv.Itoa0
import Derived.Shelf.Sort.Plain
import Derived.Shelf.Slices.Turned
import Derived.Ground.Names2Prog
import Derived.Shelf.Slices.CompactI
import Derived.Shelf.Slices.SearchI
import Derived.Shelf.Slices.Cells
import Derived.Shelf.Slices.In.SortNone
import Derived.Test.YtkhemfnlflbniaaGreatDoorProg
import Derived.Lib.OwnBridge
import Derived.Lib.SliceRun
import Derived.WalkSpells
set_option maxRecDepth 100000
set_option maxHeartbeats 2000000
namespace Go.Proofs.YtkhemfnlflbniaaGreatDoor
open Go Go.RowKit Go.Shelf Tryz
attribute [local go_sem] Oper.semAt_some
def AZ (f:FuncId) (caps:Array Value) (Fix:Nat→Prop) (w:World) (R M:Nat) (gd:Int→Int→Int→Bool):Prop :=
 ∀(left at_:Nat) (sum:Int) (W:World),left<M→at_<R→-400000000≤sum→sum≤400000000→KeepsB Fix w W →
  Calls prog f (#[.int .i64 left,.int .i64 at_,.int .i64 sum]++caps) W fun e W'=>e=.returned (.bool (gd left at_ sum))∧Below W.heap.size W W'
structure Cg (w W:World) (N:Int) (a:Option Addr) (len cap:Nat) (gv:Value) (b14:Nat) (left at_ sum:Int) (acc:List Int):Prop where
 box:W.heap[w.heap.size]?=some (.cells #[.int .i64 N,.slice a len cap] 61 (0,0))
 good:W.heap[w.heap.size+1]?=some (.cells #[gv] 149 (0,0))
 out:∃v,W.heap[w.heap.size+2]?=some (.cells #[v] 52 (0,0))∧W.ownsRow (w.heap.size+5) 3 1 v acc.length (ay acc)∧v.ownBlock≠some b14
 at_:W.heap[w.heap.size+3]?=some (.cells #[.int .i64 at_] 3 (0,0))
 sum:W.heap[w.heap.size+4]?=some (.cells #[.int .i64 sum] 3 (0,0))
 left:W.heap[b14]?=some (.cells #[.int .i64 left] 3 (0,0))
 b14:w.heap.size+5≤b14
 bl:Below w.heap.size w W
def Cc (w W0:World) (bs:List Bd) (gd:Int→Int→Int→Bool) (t:Nat→Bool) (k at_:Nat) (sum:Int) (acc:List Int) (v:Value) (c:Code) (pre:List (eK bs t)) (W:World):Prop :=
 c=.exit 1∧∃pre' x v',pre=pre'++[x]∧(∀i∈pre'.map (·.1),fe bs gd k at_ sum i=false)∧fe bs gd k at_ sum x.1=true ∧
  W.heap[w.heap.size+2]?=some (.cells #[v'] 52 (0,0))∧W.ownsRow (w.heap.size+5) 3 1 v' (acc.length+1) (ay acc++[.int .i64 (x.1:Int)])∧(∀g,v'.ownBlock=some g→v.ownBlock=some g∨W0.heap.size≤g) ∧
  W.heap[w.heap.size+3]?=some (.cells #[.int .i64 (bs.getD x.1 cn).dst] 3 (0,0))∧W.heap[w.heap.size+4]?=some (.cells #[.int .i64 (sum+(bs.getD x.1 cn).most)] 3 (0,0)) ∧
  (∀b,b<W0.heap.size→b≠w.heap.size+2→b≠w.heap.size+3→b≠w.heap.size+4→v.ownBlock≠some b→W.heap[b]?=W0.heap[b]?)∧Below (w.heap.size+2) W0 W
theorem wJ:(Tryz.prog.info? 3).map (fun i=>(i.zero,i.size,i.bytes))=some (some (.int .i64 0),1,8):=by kernel_rfl
theorem kQ (w:World) (N:Int) (R:Nat) (a:Option Addr) (cap:Nat) (bs:List Bd) (fr many:Nat) (tf gf:FuncId) (caps gcaps:Array Value) (t:Nat→Bool) (gd:Int→Int→Int→Bool) (_hR1:R≤128) (hl:bs.length≤4000)
 (hB:BoundsAt w a bs) (hv:∀b∈bs,b.valid R) (hfr:fr<R) (hm:many≤129) (hT:eJ prog tf caps (·<w.heap.size) w bs.length t) (eg:Enters prog tf) (hG:AZ gf gcaps (·<w.heap.size) w R many gd) (eg2:Enters prog gf) :
 Calls prog 154 #[.agg #[.int .i64 N,.slice a bs.length cap],.int .i64 fr,.int .i64 many,.func (.func tf) #[] caps,.func (.func gf) #[] gcaps] w fun e w'=>∃v,e=.returned v∧Below w.heap.size w w' ∧
  w'.ownsRow w.heap.size 3 1 v (cj bs (aq t bs.length) gd fr many).length (ay (cj bs (aq t bs.length) gd fr many)):=by
 have H:=aa hB;have HV:=aa hv;have HT:=aa hT;have EG:=aa eg;have HG:=aa hG;have EG2:=aa eg2;clear hB hv hT eg hG eg2;refine(callsIn_wide (n:=8)).1 (callsIn_of_wp_marks func154 rfl trivial (wpIn_wide.2 ?_) rfl);simp only[ntmps154,List.size_toArray,List.length_cons,List.length_nil,Nat.reduceAdd,Nat.reduceSub,Array.replicate_succ,Array.replicate_zero,List.push_toArray,List.append_toArray,List.nil_append,List.cons_append];go_wp2_with fail
 go_step3
 go_wp2_with fail
 go_step3
 go_wp2_with fail;obtain⟨W1,hW1⟩:∃W1,W1=(((((w.alloc (Obj.cells #[.int .i64 N,.slice a bs.length cap] 61)).alloc (Obj.cells #[.func (.func gf) #[] gcaps] 149)).alloc (Obj.cells #[.slice none 0 0] 52)).alloc (Obj.cells #[.int .i64 fr] 3)).alloc (Obj.cells #[.int .i64 0] 3)).alloc (Obj.cells #[.int .i64 ((many:Int)-1)] 3):=⟨_,rfl⟩;rw[←hW1]
 have st0:Cg w W1 N a bs.length cap (.func (.func gf) #[] gcaps) (w.heap.size+5) ((many:Int)-1) fr 0 []:=by
  refine⟨?_,?_,⟨.slice none 0 0,?_,World.ownsRow_nil _ _ _ _,by simp[Value.ownBlock]⟩,?_,?_,?_,Nat.le_refl _,?_⟩
  ·rw[hW1,Below.heap_alloc _ _ _ (by simp only[World.size_alloc];omega),Below.heap_alloc _ _ _ (by simp only[World.size_alloc];omega),Below.heap_alloc _ _ _ (by simp only[World.size_alloc];omega),Below.heap_alloc _ _ _ (by simp only[World.size_alloc];omega),Below.heap_alloc _ _ _ (by simp only[World.size_alloc];omega),af _ _ _ (by simp only)]
  ·rw[hW1,Below.heap_alloc _ _ _ (by simp only[World.size_alloc];omega),Below.heap_alloc _ _ _ (by simp only[World.size_alloc];omega),Below.heap_alloc _ _ _ (by simp only[World.size_alloc];omega),Below.heap_alloc _ _ _ (by simp only[World.size_alloc];omega),af _ _ _ (by simp only[World.size_alloc])]
  ·rw[hW1,Below.heap_alloc _ _ _ (by simp only[World.size_alloc];omega),Below.heap_alloc _ _ _ (by simp only[World.size_alloc];omega),Below.heap_alloc _ _ _ (by simp only[World.size_alloc];omega),af _ _ _ (by simp only[World.size_alloc])]
  ·rw[hW1,Below.heap_alloc _ _ _ (by simp only[World.size_alloc];omega),Below.heap_alloc _ _ _ (by simp only[World.size_alloc];omega),af _ _ _ (by simp only[World.size_alloc])]
  ·rw[hW1,Below.heap_alloc _ _ _ (by simp only[World.size_alloc];omega),af _ _ _ (by simp only[World.size_alloc])]
  ·rw[hW1,af _ _ _ (by simp only[World.size_alloc])]
  ·rw[hW1];go_grown
 have hz1:W1.heap.size=w.heap.size+6:=by rw[hW1];simp
 clear hW1;obtain⟨F,hF⟩:=ag (bM bs (aq t bs.length) gd many fr 0 [])
 have hres:cj bs (aq t bs.length) gd fr many=F.getD []:=by unfold cj;rw[hF]
 have HRES:=aa hres;have ST0:=aa st0;have HF:=aa hF;clear st0 hF hres
 refine wp_loop_ghost_k (fun n a' W=>∃u14 u15 u16 u20 u21 u22 u23 u24 u25 u26 u27 u28 u29 u30 u31 u32 u33 u34 u35 u36 u37 u38 u39 u40 u41 u42 u43 u44 u45 u46 u47 u48 u49 u50 u51 u52 u53 u54 u55 ds,(∃(k at_ b14:Nat) (sum:Int) (acc:List Int),n=k∧u14=.pointer (some ⟨b14,0,none⟩)∧at_<R∧acc.length+k=many∧-((acc.length:Int)*1000000)≤sum∧sum≤(acc.length:Int)*1000000 ∧
  Hid (bM bs (aq t bs.length) gd k at_ sum acc=F)∧Hid (Cg w W N a bs.length cap (.func (.func gf) #[] gcaps) b14 ((k:Int)-1) at_ sum acc)∧Hid (Marks w.heap.size ds W)) ∧
  a'={ tmps:=[.agg #[.int .i64 N,.slice a bs.length cap],.int .i64 fr,.int .i64 many,.func (.func tf) #[] caps,.func (.func gf) #[] gcaps,.pointer (some ⟨w.heap.size,0,none⟩),undef,undef,undef,.pointer (some ⟨w.heap.size+1,0,none⟩),.slice none 0 0,.pointer (some ⟨w.heap.size+1+1,0,none⟩),.pointer (some ⟨w.heap.size+1+1+1,0,none⟩),.pointer (some ⟨w.heap.size+1+1+1+1,0,none⟩),u14,u15,u16,.int .i64 fr,.int .i64 many,.int .i64 ((many:Int)-1),u20,u21,u22,u23,u24,u25,u26,u27,u28,u29,u30,u31,u32,u33,u34,u35,u36,u37,u38,u39,u40,u41,u42,u43,u44,u45,u46,u47,u48,u49,u50,u51,u52,u53,u54,u55,undef].toArray,defers:=ds }) many ?_ ?_
 ·exact⟨_,_,_,_,_,_,_,_,_,_,_,_,_,_,_,_,_,_,_,_,_,_,_,_,_,_,_,_,_,_,_,_,_,_,_,_,_,_,_,_,⟨many,fr,w.heap.size+5,0,[],rfl,rfl,hfr,by simp,by simp,by simp,HF,ST0,aa (Marks.nil _ _)⟩,rfl⟩
 ·rintro k _ wr ⟨u14,u15,u16,u20,u21,u22,u23,u24,u25,u26,u27,u28,u29,u30,u31,u32,u33,u34,u35,u36,u37,u38,u39,u40,u41,u42,u43,u44,u45,u46,u47,u48,u49,u50,u51,u52,u53,u54,u55,ds,⟨_,at_,b14,sum,acc,rfl,rfl,hat,hacc,hs1,hs2,hgo,hst,hmk⟩,rfl⟩ J K hJ hK
  obtain⟨q1,q2,⟨v,q3,q3',q3n⟩,q4,q5,q6,q7,q8⟩:=hst.out;have k14:wr.cell? ⟨b14,0,none⟩=some (.int .i64 ((k:Int)-1)):=cell_of_one q6;have k11:wr.cell? ⟨w.heap.size+1+1,0,none⟩=some v:=cell_of_one q3;have k0:wr.cell? ⟨w.heap.size,1,none⟩=some (.slice a bs.length cap):=bu q1 rfl
  cases k with
  | zero =>
    have hdec:decide ((0:Int)≤((0:Nat):Int)-1)=false:=by decide
    go_wp2_with fail;have hFa:F=some acc:=hgo.out.symm;refine fJ ds wr hmk.out (fun W' hk'=>?_);refine⟨_,results_tmp results154 _ _ _,v,rfl,q8.trans hk'.below,?_⟩;rw[HRES.out,hFa]
    show W'.ownsRow _ 3 1 v acc.length (ay acc)
    refine av (bF q3' (by omega)) (fun g' e=>?_)
    rcases q3'.2 with ⟨e1,_⟩|⟨g1,cp',cu,e1,hb,hh,_⟩
    ·rw[e1] at e;simp[Value.ownBlock] at e
    ·rw[e1] at e
     simp only[Value.ownBlock,Option.some.injEq] at e;rw[←e];exact(hk'.cells _ _ _ _ hh).trans hh.symm
  | succ k =>
    have hdec:decide (0≤((k+1:Nat):Int)-1)=true:=by simp
    have hswr:w.heap.size+5<wr.heap.size+1:=by have:=lt_of_block q6;omega
    go_wp2_with (first
     | (go_at_call 228;refine(l9 _ _ _ _ _ _).mono ?_;rintro e w' ⟨rfl,rfl⟩))
    obtain⟨W0,hW0⟩:∃W0,W0=(wr.alloc (Obj.cells #[Value.slice a bs.length cap] 59)).alloc (Obj.cells #[Value.func (Fn.func tf) #[] caps] 187):=⟨_,rfl⟩;rw[←hW0]
    have z0:W0.heap.size=wr.heap.size+2:=by rw[hW0];simp
    have o3':W0.heap[wr.heap.size]?=some (.cells #[.slice a bs.length cap] 59 (0,0)):=by rw[hW0,Below.heap_alloc _ _ _ (by simp only[World.size_alloc];omega),af _ _ _ rfl]
    have o4':W0.heap[wr.heap.size+1]?=some (.cells #[.func (.func tf) #[] caps] 187 (0,0)):=by rw[hW0,af _ _ _ (by simp only[World.size_alloc])]
    have o3:W0.cell? ⟨wr.heap.size,0,none⟩=some (.slice a bs.length cap):=cell_of_one o3';have o4:W0.cell? ⟨wr.heap.size+1,0,none⟩=some (.func (.func tf) #[] caps):=cell_of_one o4'
    have b0r:Below wr.heap.size wr W0:=by rw[hW0];go_grown
    clear hW0 o3' o4' k14 k11 k0;have b00:Below w.heap.size w W0:=q8.trans (b0r.mono (by omega));have hB0:BoundsAt W0 a bs:=H.out.below b00 (Nat.le_refl _)
    have hT0:eJ prog tf caps (fun b=>b<w.heap.size∨b=wr.heap.size∨b=wr.heap.size+1) W0 bs.length t :=
     fun q hq W hkp=>HT.out q hq W ⟨Nat.le_trans b00.size hkp.size,fun b hb=>(hkp.same b (.inl hb)).trans (b00.block b hb)⟩
    have l14:=lt_of_block q6;have p1:=ac b0r (lt_of_block q1) q1;have p2:=ac b0r (lt_of_block q2) q2;have p3:=ac b0r (lt_of_block q3) q3;have p4:=ac b0r (lt_of_block q4) q4;have p5:=ac b0r (lt_of_block q5) q5;have p6:=ac b0r l14 q6
    have vbl:∀g,v.ownBlock=some g→g<wr.heap.size∧w.heap.size+5≤g∧g≠b14:=by
     intro g e
     rcases q3'.2 with ⟨e1,_⟩|⟨g1,cp',cu,e1,hb,hh,_⟩
     ·rw[e1] at e;simp[Value.ownBlock] at e
     ·rw[e1] at e
      simp only[Value.ownBlock,Option.some.injEq] at e;subst e;exact⟨lt_of_block hh,hb,fun e2=>q3n (by rw[e1,←e2];rfl)⟩
    have p3':W0.ownsRow (w.heap.size+5) 3 1 v acc.length (ay acc):=av q3' (fun g e=>b0r.block g (vbl g e).1)
    refine gK wr.heap.size (wr.heap.size+1) (fun b=>b<w.heap.size∨b=wr.heap.size∨b=wr.heap.size+1) a cap bs tf caps t rfl hl hB0 hT0 EG.out
     (by intro b hb;omega) (.inr (.inl rfl)) (.inr (.inr rfl)) ?fa o3 o4
     (fun pre W=>(∀i∈pre.map (·.1),fe bs gd k at_ sum i=false)∧Below W0.heap.size W0 W)
     (Cc w W0 bs gd t k at_ sum acc v)
     ?own ?ownx ⟨fun _ h=>by simp at h,Below.refl _ _⟩ (fun pre W h=>h.2.size)
     (fun Bx W=>True) (fun _ _ _ _ _ _ _ _=>trivial) (fun _ _ _ _=>trivial)
     (fun T x Bx=>(((T.setIfInBounds 28 (.int .i64 (x.1:Int))).setIfInBounds 29 (bs[x.1]'x.2.1).val).setIfInBounds 15 (.int .i64 (x.1:Int))).setIfInBounds 16 (.pointer (some ⟨Bx,0,none⟩)))
     ?assign ?body ?done ?stop
    case fa =>
     intro x hx h0;subst hx
     rcases H.out with e|⟨b,off,e,hbl,_⟩
     ·subst e;simp at h0
     ·cases e;exact .inl hbl
    case own =>
     rintro pre W W' row ⟨h1,h2⟩ hg hr;exact⟨h1,h2.grown hg (by have:=h2.size;omega) (fun q e=>(hr q e).1)⟩
    case ownx =>
     rintro c pre W W' row ⟨rfl,pre',x,v',e,h1,h2,h3,h4,h5,h6,h7,h8,h9⟩ hg hr
     have nb:∀(q:Nat) (c:Array Value) (ty:TypeId),W.heap[q]?=some (Obj.cells c ty (0,0))→W'.heap[q]?=some (Obj.cells c ty (0,0)):=by
      intro q c ty hk;rw[hg.block q (lt_of_block hk) ?_]
      ·exact hk
      ·intro e
       obtain⟨_,o,ho,hi⟩:=hr q e.symm;rw[hk] at ho;cases ho;simp[Obj.isCells] at hi
     refine⟨rfl,pre',x,v',e,h1,h2,nb _ _ _ h3,?_,h5,nb _ _ _ h6,nb _ _ _ h7,fun b b0 b1 b2 b3 b4=>?_,h9.grown hg (by have:=h9.size;omega) (fun q e=>by have:=(hr q e).1;omega)⟩
     ·rcases h4.2 with ⟨e1,_⟩|⟨g1,cp',cu,e1,hb,hh,_⟩
      ·exact av h4 (fun g' e'=>by rw[e1] at e';simp[Value.ownBlock] at e')
      ·exact av h4 (fun g' e'=>by
        rw[e1] at e';simp only[Value.ownBlock,Option.some.injEq] at e';rw[←e']
        exact(nb _ _ _ hh).trans hh.symm)
     ·rw[hg.block b (by have:=h9.size;omega) (fun e=>by have:=(hr _ e.symm).1;omega)]
      exact h8 b b0 b1 b2 b3 b4
    case assign =>
     intro l x W K hK;simp only[rI,rH,rJ,Bd.val] at hK ⊢;gi_wp2;exact hK
    case body =>
     rintro l pre x Bx W hle ⟨r,hlp⟩ ⟨h1,h2⟩ hBx hc _ hlen;simp only[rI,rH,rJ,Bd.val];have hmem:bs[x.1]'x.2.1∈bs:=List.getElem_mem _
     have hgy:bs.getD x.1 cn=bs[x.1]'x.2.1:=by rw[List.getD_eq_getElem?_getD,List.getElem?_eq_getElem x.2.1];rfl
     obtain⟨y,hy⟩:=ag (bs[x.1]'x.2.1);rw[hy] at hmem hc hgy ⊢;obtain⟨v1,v2,v3,v4,v5,v6⟩:=HV.out y hmem;obtain⟨ys,yd,ym,yr⟩:=y;simp only at v1 v2 v3 v4 v5 v6;obtain⟨si,rfl⟩:=Int.eq_ofNat_of_zero_le v1;obtain⟨di,rfl⟩:=Int.eq_ofNat_of_zero_le v3;have hlW:=h2.size;have hBW:=lt_of_block hc;have y0:W.cell? ⟨Bx,0,none⟩=some (.int .i64 si):=bu hc rfl;have y1:W.cell? ⟨Bx,1,none⟩=some (.int .i64 di):=bu hc rfl;have y2:W.cell? ⟨Bx,2,none⟩=some (.int .i64 ym):=bu hc rfl;have e9:W.cell? ⟨w.heap.size+1,0,none⟩=some (.func (.func gf) #[] gcaps):=cell_of_one ((h2.block _ (by omega)).trans p2);have e12:W.cell? ⟨w.heap.size+1+1+1,0,none⟩=some (.int .i64 at_):=cell_of_one ((h2.block _ (by omega)).trans p4);have e13:W.cell? ⟨w.heap.size+1+1+1+1,0,none⟩=some (.int .i64 sum):=cell_of_one ((h2.block _ (by omega)).trans p5);have e14:W.cell? ⟨b14,0,none⟩=some (.int .i64 (((k+1:Nat):Int)-1)):=cell_of_one ((h2.block _ (by omega)).trans p6)
     have hkk:((k+1:Nat):Int)-1=(k:Int):=by omega
     rw[hkk] at e14;have HCX:=aa hc;have HGY:=aa hgy;have H1:=aa h1;have H2:=aa h2;clear hc hgy h1 h2 hy hmem
     by_cases hsa:si=at_
     ·subst hsa
      have hcall:=HG.out k di (sum+ym) W (by omega) (by omega) (by omega) (by omega) ⟨Nat.le_trans b00.size hlW,fun b hb=>(H2.out.block b (by have:=b00.size;omega)).trans (b00.block b hb)⟩;have HC:=aa hcall;clear hcall;have eg2:=EG2.out;unfold Enters at eg2
      cases hgd:gd k di (sum+ym) with
      | false =>
        have HGD:=aa hgd;clear hgd;gi_wp2_with fail;refine⟨trivial,((callsIn_wide.2 HC.out).inRound l).mono ?_⟩;rw[HGD.out];rintro e W2 ⟨rfl,hb'⟩;gi_wp2_with fail;refine⟨(KeepsOthers.of_grownBy (dJ hb') (fun j o e=>by cases e)).from _,KeepsB.below hb' (fun b hb=>by have:=b00.size;omega),?_,H2.out.trans (hb'.mono hlW)⟩;intro i hi;rw[List.map_append,List.mem_append] at hi
        rcases hi with hi|hi
        ·exact H1.out i hi
        ·simp only[List.map_cons,List.map_nil,List.mem_singleton] at hi
         subst hi;unfold fe;rw[HGY.out];simp only[HGD.out,Bool.and_false]
      | true =>
        have HGD:=aa hgd;clear hgd;obtain⟨i0,hi,hz0,hz1,hz2⟩:=info_parts wJ
        have hmx:Tryz.prog.follows Departure.mixedOrders=true:=by kernel_rfl
        have ht3:Tryz.prog.builtSlice 3 1 [(0,.int .i64 (x.1:Int))]=some #[.int .i64 (x.1:Int)]:=by kernel_rfl
        gi_wp2_with fail;refine⟨trivial,((callsIn_wide.2 HC.out).inRound l).mono ?_⟩;rw[HGD.out];rintro e W2 ⟨rfl,hb'⟩;have HB':=aa hb'
        have own2:W2.ownsRow (w.heap.size+5) 3 1 v acc.length (ay acc):=av p3' (fun g e=>by
         have hg1:=(vbl g e).1
         exact(hb'.block g (by omega)).trans (H2.out.block g (by omega)))
        have k11:W2.cell? ⟨w.heap.size+1+1,0,none⟩=some v:=cell_of_one ((hb'.block _ (by omega)).trans ((H2.out.block _ (by omega)).trans p3));have hs2:=hb'.size
        obtain⟨v',wa,hrun,hown',hgrow,hnil,hblk⟩:=run_append_own_at (P:=prog) (W2.alloc (Obj.cells #[.int .i64 (x.1:Int)] 3)) (w.heap.size+5) 52 52 3 i0 _ 1 8 underlying52 hi hz0 hz1 hz2 rfl (by decide) v _ _
         (own2.alloc _) ⟨W2.heap.size,0,none⟩ 1 1 [.int .i64 (x.1:Int)] rfl (cell_one_new _ _ _) (by intro u hu;simp at hu;subst hu;rfl) (by unfold maxLen;omega) (by omega) (by simp;omega)
        obtain⟨g',cap',rfl⟩:=ownsRow_succ hown'
        have keep:∀q,q<W2.heap.size→v.ownBlock≠some q→wa.heap[q]?=W2.heap[q]?:=fun q hq hne=>(hgrow.block q (by simp;omega) (fun e=>hne e.symm)).trans (Below.heap_alloc W2 _ q hq)
        have vne:∀q,q<w.heap.size+5∨q=b14∨wr.heap.size≤q→v.ownBlock≠some q:=fun q hq e=>by have:=vbl q e;omega
        have w2o:∀q,q<W0.heap.size→W2.heap[q]?=W0.heap[q]?:=fun q hq=>(hb'.block q (by omega)).trans (H2.out.block q hq)
        have g2:wa.heap[w.heap.size+2]?=some (.cells #[v] 52 (0,0)):=(keep _ (by omega) (vne _ (by omega))).trans ((w2o _ (by omega)).trans p3);have g3:wa.heap[w.heap.size+3]?=some (.cells #[.int .i64 si] 3 (0,0)):=(keep _ (by omega) (vne _ (by omega))).trans ((w2o _ (by omega)).trans p4);have g4:wa.heap[w.heap.size+4]?=some (.cells #[.int .i64 sum] 3 (0,0)):=(keep _ (by omega) (vne _ (by omega))).trans ((w2o _ (by omega)).trans p5);have gx:wa.heap[Bx]?=some (.cells #[.int .i64 si,.int .i64 di,.int .i64 ym,.int .i64 yr] 65 (0,0)):=(keep _ (by omega) (vne _ (by omega))).trans ((hb'.block _ hBW).trans HCX.out);have a11:wa.cell? ⟨w.heap.size+1+1,0,none⟩=some v:=cell_of_one g2;have f11:wa.frozen? ⟨w.heap.size+1+1,0,none⟩=false:=frozen_of_row _ _ _ _ _ g2
        have hbne:∀q,v.ownBlock=some q→∃c t f,(W2.alloc (Obj.cells #[.int .i64 (x.1:Int)] 3)).heap[q]?=some (.cells c t f):=by
         intro q e
         rcases(own2.alloc (Obj.cells #[.int .i64 (x.1:Int)] 3)).2 with ⟨e1,_⟩|⟨g1,cp',cu,e1,hb,hh,_⟩
         ·rw[e1] at e;simp[Value.ownBlock] at e
         ·rw[e1] at e
          simp only[Value.ownBlock,Option.some.injEq] at e;subst e;exact⟨_,_,_,hh⟩
        obtain⟨X,hX⟩:=ag (wa.setCell ⟨w.heap.size+1+1,0,none⟩ (.slice (some ⟨g',0,none⟩) (acc.length+1) cap'))
        have xo:∀q,q≠w.heap.size+2→X.heap[q]?=wa.heap[q]?:=fun q hq=>by rw[←hX];exact heap_setCell_other _ _ _ _ hq
        have x2:X.heap[w.heap.size+2]?=some (.cells #[.slice (some ⟨g',0,none⟩) (acc.length+1) cap'] 52 (0,0)):=by rw[←hX];exact heap_setCell_same _ _ _ _ _ _ g2
        have x3:=(xo _ (by omega)).trans g3;have x4:=(xo _ (by omega)).trans g4;have xx:=(xo Bx (by omega)).trans gx
        have xs:X.heap.size=wa.heap.size:=by rw[←hX];simp
        have z1:X.cell? ⟨Bx,1,none⟩=some (.int .i64 di):=bu xx rfl;have z2:X.cell? ⟨Bx,2,none⟩=some (.int .i64 ym):=bu xx rfl;have z3:X.cell? ⟨w.heap.size+1+1+1,0,none⟩=some (.int .i64 si):=cell_of_one x3;have z3f:X.frozen? ⟨w.heap.size+1+1+1,0,none⟩=false:=frozen_of_row _ _ _ _ _ x3;have z4:X.cell? ⟨w.heap.size+1+1+1+1,0,none⟩=some (.int .i64 sum):=cell_of_one x4;have z4f:X.frozen? ⟨w.heap.size+1+1+1+1,0,none⟩=false:=frozen_of_row _ _ _ _ _ x4;have gsz:=hgrow.size
        have gne:g'≠w.heap.size+2∧g'≠w.heap.size+3∧g'≠w.heap.size+4∧(v.ownBlock=some g'∨W0.heap.size≤g'):=by
         rcases hblk with e|e
         ·have e2:v.ownBlock=some g':=by rw[←e];rfl
          have:=vbl g' e2;exact⟨by omega,by omega,by omega,.inl e2⟩
         ·simp only[Value.ownBlock,Option.some.injEq,World.size_alloc] at e
          exact⟨by omega,by omega,by omega,.inr (by omega)⟩
        have KO:KeepsOthers W X:=by
         rw[←hX]
         exact(((KeepsOthers.of_grownBy (dJ hb') (fun j o e=>by cases e)).trans (KeepsOthers.alloc _ _)).trans (KeepsOthers.of_grownBy hgrow (fun j o e ho=>by
          obtain⟨c,t,f,hh⟩:=hbne j e
          rw[hh] at ho;cases ho;rfl))).trans (KeepsOthers.setCell _ _ _)
        have BL:Below (w.heap.size+2) W0 X:=by
         rw[←hX];exact((((H2.out.trans (hb'.mono hlW)).mono (by omega)).alloc (by omega) _).grown hgrow (by simp;omega) (fun q e=>by have:=vbl q e;omega)).setCell (by exact Nat.le_refl _) _
        have OW:X.ownsRow (w.heap.size+5) 3 1 (.slice (some ⟨g',0,none⟩) (acc.length+1) cap') (acc.length+1) (ay acc++[.int .i64 (x.1:Int)]):=av hown' (fun q e=>xo q (by
         simp only[Value.ownBlock,Option.some.injEq] at e;omega))
        have OTH:∀q,q<W0.heap.size→q≠w.heap.size+2→v.ownBlock≠some q→X.heap[q]?=W0.heap[q]?:=fun q h0 h2 h5=>(xo q h2).trans ((keep q (by omega) h5).trans (w2o q h0))
        have HX:=aa hX;have HRUN:=aa hrun;have HKO:=aa KO;have HBL:=aa BL;have HOW:=aa OW;have HOTH:=aa OTH;have HX2:=aa x2;have HX3:=aa x3;have HX4:=aa x4;have HGN:=aa gne
        have hfit:fe bs gd k si sum x.1=true:=by unfold fe;rw[HGY.out];simp only[HGD.out,beq_self_eq_true,Bool.and_true]
        have HFIT:=aa hfit
        have hdst:(bs.getD x.1 cn).dst=di∧(bs.getD x.1 cn).most=ym:=by rw[HGY.out];exact⟨rfl,rfl⟩
        have HDST:=aa hdst;have xs3:w.heap.size+3<X.heap.size:=lt_of_block x3;clear hrun hb' KO BL OW OTH x2 x3 x4 xx gne hfit hdst hgrow hown' hnil hblk keep vne w2o g2 g3 g4 gx hbne xo own2 hX e9 e12 e13 e14 y0 y1 y2;gi_wp2_with (refine jZ rfl (by rintro⟨a,w,h⟩;exact h) (s:=.tmp 45) (x:=.tmp 47) (t:=52) rfl rfl rfl HRUN.out ?_);rw[HX.out];clear a11 f11 k11;refine jt (last:=7) (S:=fun V=>V.cell? ⟨Bx,1,none⟩=some (.int .i64 di)∧V.cell? ⟨Bx,2,none⟩=some (.int .i64 ym)∧V.cell? ⟨w.heap.size+1+1+1+1,0,none⟩=some (.int .i64 sum)) hmx (by kernel_rfl) ?hout ?_
        case hout =>
         rintro⟨a,w,h⟩;exact h
        have hadd:IntKind.i64.wrap (sum+ym)=sum+ym:=IntWalk.i64_in _ (by omega);have hS0:X.drew.cell? ⟨Bx,1,none⟩=some (.int .i64 di)∧X.drew.cell? ⟨Bx,2,none⟩=some (.int .i64 ym)∧X.drew.cell? ⟨w.heap.size+1+1+1+1,0,none⟩=some (.int .i64 sum):=⟨z1,z2,z4⟩;refine bC (i:=0) (v:=.pointer (some ⟨Bx,1,none⟩)) (by kernel_rfl) (by decide) rfl (by kernel_rfl) (by kernel_rfl) (by kernel_rfl) (by intro c a w h;exact h) (.inl ⟨rfl,fun V hV=>?_⟩) hS0 ?_
        ·obtain⟨q1,q2,q3⟩:=hV
         simp[go_sem,execOp]
        simp only[Act.put,List.setIfInBounds_toArray];refine bC (i:=1) (v:=.int .i64 di) (by kernel_rfl) (by decide) rfl (by kernel_rfl) (by kernel_rfl) (by kernel_rfl) (by intro c a w h;exact h) (.inl ⟨rfl,fun V hV=>?_⟩) hS0 ?_
        ·obtain⟨q1,q2,q3⟩:=hV
         simp[go_sem,execOp,q1]
        simp only[Act.put];refine bC (i:=2) (v:=.int .i64 sum) (by kernel_rfl) (by decide) rfl (by kernel_rfl) (by kernel_rfl) (by kernel_rfl) (by intro c a w h;exact h) (.inl ⟨rfl,fun V hV=>?_⟩) hS0 ?_
        ·obtain⟨q1,q2,q3⟩:=hV
         simp[go_sem,execOp,q3]
        simp only[Act.put];refine bC (i:=3) (v:=.pointer (some ⟨Bx,2,none⟩)) (by kernel_rfl) (by decide) rfl (by kernel_rfl) (by kernel_rfl) (by kernel_rfl) (by intro c a w h;exact h) (.inl ⟨rfl,fun V hV=>?_⟩) hS0 ?_
        ·obtain⟨q1,q2,q3⟩:=hV
         simp[go_sem,execOp]
        simp only[Act.put];refine bC (i:=4) (v:=.int .i64 ym) (by kernel_rfl) (by decide) rfl (by kernel_rfl) (by kernel_rfl) (by kernel_rfl) (by intro c a w h;exact h) (.inl ⟨rfl,fun V hV=>?_⟩) hS0 ?_
        ·obtain⟨q1,q2,q3⟩:=hV
         simp[go_sem,execOp,q2]
        simp only[Act.put];refine bC (i:=5) (v:=.int .i64 (sum+ym)) (by kernel_rfl) (by decide) rfl (by kernel_rfl) (by kernel_rfl) (by kernel_rfl) (by intro c a w h;exact h) (.inl ⟨rfl,fun V hV=>?_⟩) hS0 ?_
        ·obtain⟨q1,q2,q3⟩:=hV
         simp[go_sem,execOp,hadd]
        simp only[Act.put]
        have hS1:(X.drew.setCell ⟨w.heap.size+1+1+1,0,none⟩ (.int .i64 di)).cell? ⟨Bx,1,none⟩=some (.int .i64 di)∧(X.drew.setCell ⟨w.heap.size+1+1+1,0,none⟩ (.int .i64 di)).cell? ⟨Bx,2,none⟩=some (.int .i64 ym)∧(X.drew.setCell ⟨w.heap.size+1+1+1,0,none⟩ (.int .i64 di)).cell? ⟨w.heap.size+1+1+1+1,0,none⟩=some (.int .i64 sum):=by
         refine⟨?_,?_,?_⟩
         ·exact(World.cell?_of_block (w:=X.drew) (heap_setCell_other _ _ _ _ (by simp;omega))).trans z1
         ·exact(World.cell?_of_block (w:=X.drew) (heap_setCell_other _ _ _ _ (by simp;omega))).trans z2
         ·exact(World.cell?_of_block (w:=X.drew) (heap_setCell_other _ _ _ _ (by simp))).trans z4
        have z4g:(X.drew.setCell ⟨w.heap.size+1+1+1,0,none⟩ (.int .i64 di)).frozen? ⟨w.heap.size+1+1+1+1,0,none⟩=false:=frozen_of_row _ _ _ _ _ ((heap_setCell_other _ _ _ _ (by simp)).trans HX4.out);refine jM 6 (by kernel_rfl) (jl (w':=X.drew.setCell ⟨w.heap.size+1+1+1,0,none⟩ (.int .i64 di)) rfl rfl (by simp[go_sem,execOp,z3,z3f]) ⟨.inr hS1,?_⟩);simp only[Act.put];refine jM 7 (by kernel_rfl) (jl (w':=(X.drew.setCell ⟨w.heap.size+1+1+1,0,none⟩ (.int .i64 di)).setCell ⟨w.heap.size+1+1+1+1,0,none⟩ (.int .i64 (sum+ym))) rfl rfl (by simp[go_sem,execOp,z4,z4f]) ⟨.inl rfl,?_⟩);simp only[Act.put];refine aw (by kernel_rfl) ?_ _;clear z1 z2 z3 z3f z4 z4f hS0 hS1 z4g;gi_wp2_with fail
        have HXO:∀q,q≠w.heap.size+3→q≠w.heap.size+4→((X.drew.setCell ⟨w.heap.size+1+1+1,0,none⟩ (.int .i64 di)).setCell ⟨w.heap.size+1+1+1+1,0,none⟩ (.int .i64 (sum+ym))).heap[q]?=X.heap[q]?:=fun q h3 h4=>(heap_setCell_other _ _ _ _ h4).trans (heap_setCell_other _ _ _ _ h3)
        refine⟨(((HKO.out.trans (KeepsOthers.drew _)).trans (KeepsOthers.setCell _ _ _)).trans (KeepsOthers.setCell _ _ _)).from _,?_⟩;unfold Cc;refine⟨rfl,pre,x,_,rfl,H1.out,HFIT.out,(HXO _ (by omega) (by omega)).trans HX2.out,?_,?_,?_,?_,?_,?_⟩
        ·exact av HOW.out (fun q e=>HXO q (by simp only[Value.ownBlock,Option.some.injEq] at e;have:=HGN.out;omega) (by simp only[Value.ownBlock,Option.some.injEq] at e;have:=HGN.out;omega))
        ·intro q e
         simp only[Value.ownBlock,Option.some.injEq] at e;subst e;exact HGN.out.2.2.2
        ·rw[HDST.out.1]
         exact(heap_setCell_other _ _ _ _ (by simp)).trans ((heap_setCell_same _ _ _ _ _ _ HX3.out).trans rfl)
        ·rw[HDST.out.2]
         exact(heap_setCell_same _ _ _ _ _ _ ((heap_setCell_other _ _ _ _ (by simp)).trans HX4.out)).trans rfl
        ·intro q h0 h2 h3 h4 h5
         exact(HXO q h3 h4).trans (HOTH.out q h0 h2 h5)
        ·exact(HBL.out.drew.setCell (by simp) _).setCell (by simp) _
     ·have hdec:decide ((si:Int)=(at_:Int))=false:=by simp;omega
      gi_wp2_with fail;refine⟨fun _ h=>(by cases h),?_⟩;gi_wp2_with fail;refine⟨(KeepsOthers.refl W).from _,KeepsB.refl _ _,?_,H2.out⟩;intro i hi;rw[List.map_append,List.mem_append] at hi
      rcases hi with hi|hi
      ·exact H1.out i hi
      ·simp only[List.map_cons,List.map_nil,List.mem_singleton] at hi
       subst hi;unfold fe;rw[HGY.out]
       have:((si:Int)==(at_:Int))=false:=by simp;omega
       rw[this];rfl
    case done =>
     rintro D xs W hD hxs ⟨h1,h2⟩ hKD;have hnone:(aq t bs.length).find? (fe bs gd k at_ sum)=none:=mb (by rw[←hxs];exact h1)
     have hFn:F=none:=by rw[←hgo.out,bM,hnone]
     have HFN:=aa hFn;clear hFn hnone;go_wp2_with fail;refine fJ (B:=w.heap.size) _ W (Marks.cons hmk.out (fun D' hD' hd=>(h2.block _ (by have:=lt_of_block hd;omega)).trans (ac b0r (lt_of_block hd) hd)) (by omega) (by omega) hKD) (fun W' hk'=>?_);refine⟨_,results_tmp results154 _ _ _,.slice none 0 0,rfl,(b00.trans (h2.mono (by omega))).trans hk'.below,?_⟩;rw[HRES.out,HFN.out];exact World.ownsRow_nil _ _ _ _
    case stop =>
     rintro D c pre W hD ⟨kk,hkk,hpre⟩ ⟨rfl,pre',x,v',e,h1,h2,h3,h4,h5,h6,h7,h8,h9⟩ hKD
     have hxm:bs.getD x.1 cn∈bs:=by rw[List.getD_eq_getElem?_getD,List.getElem?_eq_getElem x.2.1];exact List.getElem_mem _
     obtain⟨y,hy⟩:=ag (bs.getD x.1 cn);have hfind:(aq t bs.length).find? (fe bs gd k at_ sum)=some x.1:=s9 hkk (by rw[←hpre,e,List.map_append];rfl) h1 h2
     have hgo2:bM bs (aq t bs.length) gd k (bs.getD x.1 cn).dst (sum+(bs.getD x.1 cn).most) (acc++[(x.1:Int)])=F:=by rw[←hgo.out,bM,hfind]
     rw[hy] at h6 h7 hgo2 hxm;obtain⟨v1,v2,v3,v4,v5,v6⟩:=HV.out y hxm;obtain⟨di,hdi⟩:=Int.eq_ofNat_of_zero_le v3;rw[hdi] at h6 hgo2;have hlW:=h9.size;have e14:=(h8 b14 (by omega) (by omega) (by omega) (by omega) q3n).trans p6;have c14:W.cell? ⟨b14,0,none⟩=some (.int .i64 (((k+1:Nat):Int)-1)):=cell_of_one e14;have ebox:=(h9.block w.heap.size (by omega)).trans p1;have egood:=(h9.block (w.heap.size+1) (by omega)).trans p2
     have b14W:b14<W.heap.size:=by omega
     have hd2:decide (0≤((k+1:Nat):Int)-1)=true:=by simp
     have h3H:=aa h3;have h4H:=aa h4;have h5H:=aa h5;have h6H:=aa h6;have h7H:=aa h7;have h8H:=aa h8;have h9H:=aa h9;have HG2:=aa hgo2;have HKD:=aa hKD;have EBOX:=aa ebox;have EGOOD:=aa egood;have HPRE:=aa hpre;clear h1 h2 h3 h4 h5 h6 h7 h8 h9 hgo2 hKD ebox egood e14 hfind hpre hy hxm p1 p2 p3 p4 p5 p6;go_wp2_with fail;refine Handed.intro k (by omega) (hJ _ _ _ ?_);refine⟨_,_,_,_,_,_,_,_,_,_,_,_,_,_,_,_,_,_,_,_,_,_,_,_,_,_,_,_,_,_,_,_,_,_,_,_,_,_,_,_,⟨k,di,W.heap.size,sum+y.most,acc++[(x.1:Int)],rfl,rfl,by omega,by simp;omega,by simp;omega,by simp;omega,HG2,?_,?_⟩,rfl⟩
     ·refine aa ⟨(Below.heap_alloc _ _ _ (by omega)).trans EBOX.out,(Below.heap_alloc _ _ _ (by omega)).trans EGOOD.out,⟨v',(Below.heap_alloc _ _ _ (by omega)).trans h3H.out,?_,?_⟩,(Below.heap_alloc _ _ _ (by omega)).trans h6H.out,(Below.heap_alloc _ _ _ (by omega)).trans h7H.out,?_,by omega,?_⟩
      ·rw[show ay (acc++[(x.1:Int)])=ay acc++[.int .i64 (x.1:Int)] from by simp[ay],show(acc++[(x.1:Int)]).length=acc.length+1 from by simp]
       exact h4H.out.alloc _
      ·intro e2
       rcases h4H.out.2 with ⟨e1,_⟩|⟨g1,cp',cu,e1,hb,hh,_⟩
       ·rw[e1] at e2;simp[Value.ownBlock] at e2
       ·rw[e1] at e2
        simp only[Value.ownBlock,Option.some.injEq] at e2;have:=lt_of_block hh;omega
      ·rw[af _ _ _ rfl]
      ·exact(b00.trans (h9H.out.mono (by omega))).alloc (by omega) _
     ·refine aa (Marks.cons hmk.out (fun D' hD' hd=>?_) (by omega) (by omega) ?_)
      ·have hlt':=lt_of_block hd
       have hne:∀q c (ty:TypeId) (f:Nat×Nat),wr.heap[q]?=some (Obj.cells c ty f)→D'≠q:=by intro q c ty f hq e2;rw[e2,hq] at hd;cases hd
       refine(Below.heap_alloc _ _ _ (by omega)).trans ((h8H.out _ (by omega) (hne _ _ _ _ q3) (hne _ _ _ _ q4) (hne _ _ _ _ q5) ?_).trans (ac b0r hlt' hd));intro e2
       rcases q3'.2 with ⟨e1,_⟩|⟨g1,cp',cu,e1,hb,hh,_⟩
       ·rw[e1] at e2;simp[Value.ownBlock] at e2
       ·rw[e1] at e2
        simp only[Value.ownBlock,Option.some.injEq] at e2;exact hne _ _ _ _ hh e2.symm
      ·exact(Below.heap_alloc _ _ _ (lt_of_block HKD.out)).trans HKD.out
theorem aA (w:World) (n:Nat) {B:Nat}:Below B w (w.drewN n):=⟨rfl,rfl,rfl,Nat.le_refl _,fun _ _=>rfl⟩
theorem xY (w:World) (r:List Int) (a:Nat) (d:Int) (b1 b2:Nat) (hr:r.length=128) (ha:a<128) (c1:w.cell? ⟨b1,0,none⟩=some (.int .i64 a)) (c2:w.cell? ⟨b2,0,none⟩=some (.int .i64 d)) (h1:b1<w.heap.size) (h2:b2<w.heap.size) :
 Calls prog 193 #[.agg (bt r),.pointer (some ⟨b1,0,none⟩),.pointer (some ⟨b2,0,none⟩)] w fun e w'=>e=.returned (.bool (r.getD a 0==d))∧Below w.heap.size w w':=by
 have c3:(w.alloc (.cells (bt r) 189)).cell? ⟨w.heap.size,a,none⟩=some (.int .i64 (r.getD a 0)):=by rw[cell_of_row _ _ _ _ _ _ (heap_alloc_new _ _),dE (by omega)]
 have a128:(a:Int)<128:=by omega
 have a0:(0:Int)≤(a:Int):=by omega
 obtain⟨v,hv⟩:=ag (r.getD a 0);rw[hv] at c3;have HV:=aa hv;clear hv;go_enter func193,ntmps193;go_wp2_with fail
 go_quiet (fail)
 go_wp2_with fail;go_ret;exact⟨by rw[HV.out];rfl,(aD).trans (aA _ _)⟩
def RowsAt (w:World) (g:Nat) (rows:List (List Int)):Prop:=∀k p:Nat,k<rows.length→p<128→w.cell? ⟨g,k*128+p,none⟩=some (.int .i64 ((rows.getD k []).getD p 0))
theorem RowsAt.below {B:Nat} {w w':World} {g:Nat} {rows:List (List Int)} (h:RowsAt w g rows) (hb:Below B w w') (hg:g<B):RowsAt w' g rows:=fun k p hk hp=>(hb.cell (by exact hg)).trans (h k p hk hp)
def yq (P:Program) (f:FuncId) (caps:Array Value) (w:World) (rows:List (List Int)) (p:List Int→Bool):Prop :=
 ∀k (_:k<rows.length) (W:World),Below w.heap.size w W→Calls P f (#[.agg (bt (rows.getD k []))]++caps) W fun e W'=>e=.returned (.bool (p (rows.getD k [])))∧Below W.heap.size W W'
theorem kD {w:World} {g:Nat} {rows:List (List Int)} (h:RowsAt w g rows) {k:Nat} (hk:k<rows.length) (hr:(rows.getD k []).length=128):w.rangeAt g (k*128) (ay (rows.getD k [])):=by
 intro j v hj
 have hl:j<128:=by
  have:=(List.getElem?_eq_some_iff.1 hj).1;simp only[ay,List.length_map] at this;omega
 rw[h k j hk hl];simp only[ay,List.getElem?_map] at hj;rw[List.getElem?_eq_getElem (by omega)] at hj;simp only[Option.map_some,Option.some.injEq] at hj;rw[←hj,List.getD_eq_getElem?_getD,List.getElem?_eq_getElem (by omega)]
 rfl
theorem i5 {α:Type} (l:List α) (d:α) {k:Nat} (h:k<l.length):l.getD k d=l[k]:=by
 rw[List.getD_eq_getElem?_getD,List.getElem?_eq_getElem h];rfl
theorem kT (w:World) (g cap:Nat) (rows:List (List Int)) (f:FuncId) (caps:Array Value) (p:List Int→Bool) (hl:rows.length≤4000) (hg:g<w.heap.size) (h:RowsAt w g rows) (hr:∀k,k<rows.length→(rows.getD k []).length=128)
 (hf:yq prog f caps w rows p) (eg:Enters prog f) :
 Calls prog 192 #[.slice (some ⟨g,0,none⟩) rows.length cap,.func (.func f) #[] caps] w fun e w'=>e=.returned (.int .i64 (bk p rows))∧Below w.heap.size w w':=by
 have H:=aa h;have HF:=aa hf;have HR:=aa hr;have i94:Hid ((Tryz.prog.info? 189).map (·.size)=some 128):=aa (by kernel_rfl);unfold Enters at eg;clear h hf hr;go_enter func192,ntmps192;go_wp2
 go_loopw [8] (fun i wr=>∃k:Nat,k≤rows.length∧i=.int .i64 k∧Hid ((rows.take k).any p=false)∧Below w.heap.size w wr)
  (fun i _=>rows.length-(intOf i).toNat)
 case atStart=>exact⟨0,by omega,rfl,aa rfl,by go_grown⟩
 case round =>
  obtain⟨k,hk,rfl,HA,hb⟩:=hrel
  by_cases hlt:k<rows.length
  ·have hcall:=HF.out k hlt wr hb
   have hrow:=HR.out k hlt;have hrg:=kD (H.out.below hb hg) hlt hrow;have hxx:rows[k]=rows.getD k []:=(i5 rows [] hlt).symm;obtain⟨x,hx⟩:=ag (rows.getD k []);rw[hx] at hcall hrow hrg hxx;have HC:=aa hcall;have HG:=aa hrg;have HX:=aa hxx;have HW:=aa hrow;clear hx hcall hrg hxx hrow
   cases hq:p x with
   | true =>
     have HQ:=aa hq;clear hq
     go_wp2_with (first
      | (refine wpList_load_mid rfl 189 _ rfl g (k*128) rfl (ay x) _ HG.out underlying189 rfl ?hsz ?_)
      | (go_at_fn f;refine HC.out.mono ?_;rw[HQ.out];rintro e w' ⟨rfl,hb'⟩))
     all_goals first
      | (go_ret
         exact⟨by rw[dC hlt HA.out (by rw[HX.out];exact HQ.out)];rfl,bB hb hb'⟩)
      | skip
     all_goals (rw[i94.out];simp[ay,HW.out])
   | false =>
     have HQ:=aa hq;clear hq
     go_wp2_with (first
      | (refine wpList_load_mid rfl 189 _ rfl g (k*128) rfl (ay x) _ HG.out underlying189 rfl (by rw[i94.out];simp[ay,HW.out]) ?_)
      | (go_at_fn f;refine HC.out.mono ?_;rw[HQ.out];rintro e w' ⟨rfl,hb'⟩))
     go_roundw
     case rel=>exact⟨k+1,by omega,by go_num,aa (bR hlt HA.out (by rw[HX.out];exact HQ.out)),bB hb hb'⟩
     case measure=>simp[intOf];omega
  ·go_wp2_with fail
   go_ret;exact⟨by rw[dc (cD (by omega) HA.out)];rfl,hb⟩
theorem wO (w:World) (g cap n:Nat) (rows:List (List Int)) (d:Int) (b3 b4 left at_:Nat) (sum:Int) (hn:rows.length=n) (_hn2:n≤200) (h:RowsAt w g rows) (hl:left<n) (ha:at_<128) (hs1:-400000000≤sum) (hs2:sum≤400000000)
 (hv:-1000000000≤(rows.getD left []).getD at_ 0∧(rows.getD left []).getD at_ 0≤1125899906842624)
 (c3:w.cell? ⟨b3,0,none⟩=some (.slice (some ⟨g,0,none⟩) n cap)) (c4:w.cell? ⟨b4,0,none⟩=some (.int .i64 d)) :
 Calls prog 194 #[.int .i64 left,.int .i64 at_,.int .i64 sum,.pointer (some ⟨b3,0,none⟩),.pointer (some ⟨b4,0,none⟩)] w fun e w'=>e=.returned (.bool (dK rows d left at_ sum))∧Below w.heap.size w w':=by
 have c5:=h left at_ (by omega) ha;have HN:=aa hn;obtain⟨v,hvv⟩:=ag ((rows.getD left []).getD at_ 0);rw[hvv] at c5 hv
 have a128:(at_:Int)<128:=by omega
 have a0:(0:Int)≤(at_:Int):=by omega
 have l0:(0:Int)≤(left:Int):=by omega
 have l1:(left:Int)<(n:Int):=by omega
 obtain⟨hv1,hv2⟩:=hv;have hw:IntKind.i64.wrap (sum+v)=sum+v:=IntWalk.i64_in _ (by omega)
 by_cases hf:v<1125899906842624
 ·have hg:dK rows d left at_ sum=(sum+v==d):=by
   unfold dK az;simp only[Int.toNat_natCast]
   simp only[hvv];simp[hf]
  have HG:=aa hg;clear hvv hg hn h;go_enter func194,ntmps194;go_wp2_with fail
  go_quiet (fail)
  go_wp2_with fail;go_ret;exact⟨by rw[HG.out];rfl,aA _ _⟩
 ·have hg:dK rows d left at_ sum=false:=by
   unfold dK az;simp only[Int.toNat_natCast]
   simp only[hvv];simp[hf]
  have HG:=aa hg
  have hdec:decide (v<1125899906842624)=false:=by simpa using hf
  clear hvv hg hn h;go_enter func194,ntmps194;go_wp2_with fail
  go_quiet (fail)
  go_wp2_with fail;go_ret;exact⟨by rw[HG.out];rfl,aA _ _⟩
theorem fT {w:World} {base g n cp:Nat} {rows:List (List Int)} (h:w.ownsRow base 189 128 (.slice (some ⟨g,0,none⟩) n cp) n (eO rows)) (hr:∀r∈rows,r.length=128):RowsAt w g rows∧g<w.heap.size:=by
 refine⟨fun k p hk hp=>pX h hr hk hp,?_⟩
 rcases h.2 with ⟨e,_⟩|⟨g',cp',cur,e,_,hh,_⟩
 ·cases e
 ·cases e;exact lt_of_block hh
def iN (l:List Int) (err:Int) (base:Nat) (e:Ending) (w':World):Prop:=∃v,e=.returned (.tuple #[v,.int .i64 err])∧w'.ownsRow base 3 1 v l.length (ay l)
theorem nR {N:Int} {l:List Bd} (hv:au N l) (tow k p:Nat) (hk:k≤200):-1000000000≤(aI l tow k).getD p 0∧(aI l tow k).getD p 0≤1125899906842624:=by
 rcases(en hv tow k).2 p with e|e
 ·rw[e];unfold aC;omega
 ·omega
theorem zE (w:World) (N:Int) (a:Option Addr) (cap:Nat) (bs:List Bd) (x y:Int) (hN:bK N) (hl:bs.length≤9223372036854775807) (h:BoundsAt w a bs) :
 Calls prog 114 #[.agg #[.int .i64 N,.slice a bs.length cap],.int .i64 x,.int .i64 y] w fun e w'=>iN (kJ N bs x y).1 (kJ N bs x y).2 w.heap.size e w'∧Below w.heap.size w w':=by
 have H:=aa h;have HN:=aa hN;clear h hN;have hA1:Below w.heap.size w (w.alloc (.cells #[.int .i64 N,.slice a bs.length cap] 61)):=aD;have hB0:Below w.heap.size w (((w.alloc (.cells #[.int .i64 N,.slice a bs.length cap] 61)).alloc (.cells #[.int .i64 x] 3)).alloc (.cells #[.int .i64 x,.int .i64 y] 3)):=(((aD).alloc (by simp) _).alloc (by simp;omega) _);have hints:=rL ((w.alloc (.cells #[.int .i64 N,.slice a bs.length cap] 61)).alloc (.cells #[.int .i64 x] 3)) x y;simp only[World.size_alloc] at hints
 have hask:Calls prog 143 #[.agg #[.int .i64 N,.slice a bs.length cap],.slice (some ⟨w.heap.size+1+1,0,none⟩) 2 2] (((w.alloc (.cells #[.int .i64 N,.slice a bs.length cap] 61)).alloc (.cells #[.int .i64 x] 3)).alloc (.cells #[.int .i64 x,.int .i64 y] 3)) _ :=
  lI _ N a cap bs (some ⟨w.heap.size+1+1,0,none⟩) 2 [x,y] HN.out hl (by simp) (((H.out.alloc (.cells #[.int .i64 N,.slice a bs.length cap] 61)).alloc (.cells #[.int .i64 x] 3)).alloc (.cells #[.int .i64 x,.int .i64 y] 3)) hints
 clear hints
 by_cases he:bc N bs [x,y]=0
 ·obtain⟨R,x',y',t,rfl,rfl,rfl,hx,hy,ht,HO⟩:=zI he
  obtain⟨r,hr⟩:=ag (dW R t bs x');obtain⟨v,hv⟩:=ag (r.getD y' 0)
  have hdn:aF R bs x' y'=v:=by unfold aF;rw[eB ht,hr,hv]
  have hrl:r.length=128:=by rw[←hr];exact(HO.row hx).1
  have hrow:=(HO.row hx).2 y' hy;rw[hr,hv] at hrow;have hn1:=HO.n1;have hlen:=HO.len
  have hidx:=fun W=>fY W r y' hrl (by omega)
  rw[hv] at hidx;have HRW:=aa hrow;have HDN:=aa hdn;have HE:=aa he;have HT:=aa ht;have HR:=aa hr;have HRL:=aa hrl;clear hdn he ht hr hrl hrow hv;have HA:=aa hask
  have hdd:kJ R bs x' y'=if 1125899906842624≤v then([],5) else(dA R bs x' y',0):=by unfold kJ;rw[if_pos HE.out];simp[HDN.out]
  have HDD:=aa hdd;clear hask hdd
  by_cases hfar:1125899906842624≤v
  ·have hnv:nV v=0∧nB v=false:=by unfold nV nB;rw[if_pos hfar];simp;omega
   have hnB:ud v=false:=hnv.2;have HF:=aa hfar;clear hfar hnv;go_enter func114,ntmps114;go_wp2_with fail;refine HA.out.mono ?_;rintro e w1 ⟨hp,hb1⟩;unfold cB at hp;rw[if_pos HE.out] at hp;obtain⟨bn,t',ht',rfl,hbn,hcell⟩:=hp
   have htt:t'=t:=by have:=HT.out;rw[ht'] at this;exact Option.some.inj this
   subst htt;have B1:=bB hB0 hb1;have hdist:=ki w1 bn R a cap bs t' x' HO hx (H.out.below B1 (Nat.le_refl _)) hcell;rw[HR.out] at hdist;have c4:w1.cell? ⟨w.heap.size+1,0,none⟩=some (.int .i64 (x':Int)):=cell_of_one (ac hb1 (by simp) ((Below.heap_alloc _ _ _ (by simp)).trans (af _ _ _ (by simp))));have HDI:=aa hdist;have HB1:=aa B1;clear hdist hcell ht' hb1 B1 hbn
   go_wp2_with (first
    | (go_at_call 191;refine HDI.out.mono ?_;rintro e w2 ⟨rfl,hb2⟩)
    | (go_at_call 190;refine(f9 _ _).mono ?_;rw[hnB];rintro e w' ⟨rfl,rfl⟩))
   go_ret2;refine⟨?_,(bB HB1.out hb2).trans ((Below.refl _ _).alloc (by have:=HB1.out.size;have:=hb2.size;omega) _)⟩;rw[HDD.out,if_pos HF.out];exact⟨_,rfl,World.ownsRow_nil _ _ _ _⟩
  ·have hnB:ud v=true:=by unfold ud;simp;omega
   have hnV:pA v=v:=by unfold pA;rw[if_neg hfar]
   have hdis:j7 bs x' y' v:=by
    rcases HRW.out with ⟨_,q⟩|⟨q,_⟩
    ·exact q
    ·unfold aC at q;omega
   obtain⟨m,hm1,hm2,hm3⟩:=kN HO hx hy hdis
   have hpp:dA R bs x' y'=cj bs (aq iy bs.length) (dK (aK bs y' R) v) x' m:=by unfold dA;rw[HDN.out,hm1];simp
   have HM:=aa hm1;have HPP:=aa hpp;have HF:=aa hfar;clear hm1 hm3 hpp hfar hdis
   have hrl2:∀q,q<(aK bs y' R).length→((aK bs y' R).getD q []).length=128:=by
    intro q hq;rw[ct] at hq;rw[bP _ _ _ (by omega)];exact(en HO.valid y' q).1
   have hrbd:∀q p,q≤R→-1000000000≤((aK bs y' R).getD q []).getD p 0∧((aK bs y' R).getD q []).getD p 0≤1125899906842624:=by
    intro q p hq;rw[bP _ _ _ hq];exact nR HO.valid _ _ _ (by omega)
   have hrmem:∀r∈aK bs y' R,r.length=128:=ix (N:=(R:Int)) HO.valid y' R;have hrlen:=ct bs y' R;obtain⟨rows,hrows⟩:=ag (aK bs y' R);rw[hrows] at hrl2 hrbd hrlen hrmem;have HRS:=aa hrows;have HR2:=aa hrl2;have HRB:=aa hrbd;have HRM:=aa hrmem;have HLN:=aa hrlen;clear hrows hrl2 hrbd hrmem hrlen;go_enter func114,ntmps114;go_wp2_with fail;refine HA.out.mono ?_;rintro e w1 ⟨hp,hb1⟩;unfold cB at hp;rw[if_pos HE.out] at hp;obtain⟨bn,t',ht',rfl,hbn,hcell⟩:=hp
   have htt:t'=t:=by have:=HT.out;rw[ht'] at this;exact Option.some.inj this
   subst htt;have B1:=bB hB0 hb1;have hdist:=ki w1 bn R a cap bs t' x' HO hx (H.out.below B1 (Nat.le_refl _)) hcell;rw[HR.out] at hdist;have h4:=ac hb1 (by simp) ((Below.heap_alloc ((w.alloc (.cells #[.int .i64 (R:Int),.slice a bs.length cap] 61)).alloc (.cells #[.int .i64 (x':Int)] 3)) (.cells #[.int .i64 (x':Int),.int .i64 (y':Int)] 3) (w.heap.size+1) (by simp)).trans (af _ _ _ (by simp)));have h3:=ac hb1 (by simp;omega) ((Below.heap_alloc ((w.alloc (.cells #[.int .i64 (R:Int),.slice a bs.length cap] 61)).alloc (.cells #[.int .i64 (x':Int)] 3)) (.cells #[.int .i64 (x':Int),.int .i64 (y':Int)] 3) w.heap.size (by simp;omega)).trans ((Below.heap_alloc _ _ _ (by simp)).trans (af _ _ _ rfl)));have c4:w1.cell? ⟨w.heap.size+1,0,none⟩=some (.int .i64 (x':Int)):=cell_of_one h4;have HDI:=aa hdist;have HB1:=aa B1;have H3:=aa h3;have H4:=aa h4;clear hdist hcell ht' hb1 B1 hbn h3 h4;go_wp2_with fail;refine HDI.out.mono ?_;rintro e w2 ⟨rfl,hb2⟩;have B2:=bB HB1.out hb2;have k3:=ac hb2 (lt_of_block H3.out) H3.out;have k4:=ac hb2 (lt_of_block H4.out) H4.out;have c0:w2.cell? ⟨w.heap.size,0,none⟩=some (.int .i64 (R:Int)):=bu k3 rfl;have c1:w2.cell? ⟨w.heap.size,1,none⟩=some (.slice a bs.length cap):=bu k3 rfl;have l0:=lt_of_block k3;have l1:=lt_of_block k4;have HB2:=aa B2;have K3:=aa k3;have K4:=aa k4;clear c4 hb2 B2 k3 k4;go_wp2_with (go_at_call 190;refine(f9 _ _).mono ?_;rw[hnB,hnV];rintro e w' ⟨rfl,rfl⟩);have B3:Below w.heap.size w (w2.alloc (.cells #[.int .i64 v] 3)):=HB2.out.alloc (by omega) _;have hwk:=lF (w2.alloc (.cells #[.int .i64 v] 3)) (R:Int) R a cap bs y' R 152 #[] iy hn1 (by omega) (H.out.below B3 (Nat.le_refl _)) HO.valid hy hn1 (jp _ _ _) iq;rw[i9,HRS.out] at hwk;refine hwk.mono ?_;rintro e w3 ⟨g,cp,rfl,hb3,hown⟩;obtain⟨hra,hgl⟩:=fT hown HRM.out;have B4:=bB B3 hb3;have m3:=ac hb3 (by simp;omega) ((Below.heap_alloc w2 (.cells #[.int .i64 v] 3) _ l0).trans K3.out);have m4:=ac hb3 (by simp;omega) ((Below.heap_alloc w2 (.cells #[.int .i64 v] 3) _ l1).trans K4.out);have m5:=ac hb3 (by simp) (heap_alloc_new w2 (.cells #[.int .i64 v] 3));have n0:=lt_of_block m3;have n1:=lt_of_block m4;have n2:=lt_of_block m5;have HRA:=aa hra;have HB4:=aa B4;have M3:=aa m3;have M4:=aa m4;have M5:=aa m5;clear c0 c1 hwk hb3 hown hra B3 B4 m3 m4 m5;go_wp2_with fail;have q3:=(Below.heap_alloc w3 (.cells #[.slice (some ⟨g,0,none⟩) (R+1) cp] 185) _ n0).trans M3.out;have q4:=(Below.heap_alloc w3 (.cells #[.slice (some ⟨g,0,none⟩) (R+1) cp] 185) _ n1).trans M4.out;have q5:=(Below.heap_alloc w3 (.cells #[.slice (some ⟨g,0,none⟩) (R+1) cp] 185) _ n2).trans M5.out
   have q6:=heap_alloc_new w3 (.cells #[.slice (some ⟨g,0,none⟩) (R+1) cp] 185);have hra4:=HRA.out.below ((Below.refl w3.heap.size w3).alloc (Nat.le_refl _) (.cells #[.slice (some ⟨g,0,none⟩) (R+1) cp] 185)) hgl;obtain⟨w4,hw4⟩:=ag (w3.alloc (.cells #[.slice (some ⟨g,0,none⟩) (R+1) cp] 185))
   have z4:w4.heap.size=w3.heap.size+1:=by rw[←hw4];simp
   have B5:Below w.heap.size w w4:=by rw[←hw4];exact HB4.out.alloc HB4.out.size _
   rw[hw4] at q3 q4 q5 q6 hra4
   have hidf:=kT w4 g cp rows 193 #[.pointer (some ⟨w.heap.size+1,0,none⟩),.pointer (some ⟨w2.heap.size,0,none⟩)] (fun r=>r.getD x' 0==v) (by rw[HLN.out];omega) (by omega) hra4 HR2.out
    (fun q hq W hb=>xY W _ x' v (w.heap.size+1) w2.heap.size (HR2.out q hq) (by omega) (cell_of_one (ac hb (by omega) q4)) (cell_of_one (ac hb (by omega) q5)) (Nat.lt_of_lt_of_le (by omega) hb.size) (Nat.lt_of_lt_of_le (by omega) hb.size))
    (enters_of func193 (by kernel_rfl) rfl)
   have hidx2:=HM.out;rw[HRS.out] at hidx2;rw[HLN.out,hidx2] at hidf;have HID:=aa hidf;have HW4:=aa hw4;clear hidx2 hidf hw4;rw[HW4.out];refine HID.out.mono ?_;rintro e w5 ⟨rfl,hb5⟩;have r3:=ac hb5 (by omega) q3;have r4:=ac hb5 (by omega) q4;have r5:=ac hb5 (by omega) q5;have r6:=ac hb5 (by omega) q6;have hra5:=hra4.below hb5 (by omega);have B6:=bB B5 hb5;have c0:w5.cell? ⟨w.heap.size,0,none⟩=some (.int .i64 (R:Int)):=bu r3 rfl;have c1:w5.cell? ⟨w.heap.size,1,none⟩=some (.slice a bs.length cap):=bu r3 rfl;have c4:w5.cell? ⟨w.heap.size+1,0,none⟩=some (.int .i64 (x':Int)):=cell_of_one r4
   have hfo:=kQ w5 (R:Int) R a cap bs x' m 152 194 #[] #[.pointer (some ⟨w3.heap.size,0,none⟩),.pointer (some ⟨w2.heap.size,0,none⟩)] iy (dK rows v) hn1 (by omega) (H.out.below B6 (Nat.le_refl _)) HO.valid hx (by omega) (jp _ _ _) iq
    (fun left at_ sum W h1 h2 h3 h4 hk=>wO W g cp (R+1) rows v w3.heap.size w2.heap.size left at_ sum HLN.out (by omega) (fun q p hq hp=>(hk.cell (by have:=hb5.size;show g<_;omega)).trans (hra5 q p hq hp)) (by omega) (by omega) h3 h4 (HRB.out left at_ (by omega))
     ((hk.cell (by have:=hb5.size;show w3.heap.size<_;omega)).trans (cell_of_one r6)) ((hk.cell (by have:=hb5.size;show w2.heap.size<_;omega)).trans (cell_of_one r5)))
    (enters_of func194 (by kernel_rfl) rfl)
   have HFO:=aa hfo;have HB6:=aa B6;clear hfo hb5 r3 r4 r5 r6 hra5 B6 q3 q4 q5 q6 hra4;go_wp2_with fail;refine HFO.out.mono ?_;rintro e w6 ⟨vv,rfl,hb6,hown6⟩;have HO6:=aa hown6;have HB7:=aa hb6;clear hown6 hb6;go_wp2_with fail;go_ret2;refine⟨?_,bB HB6.out HB7.out⟩;rw[HDD.out,if_neg (by have:=HF.out;omega),HPP.out,HRS.out];exact⟨_,rfl,bF HO6.out HB6.out.size⟩
 ·have hd:kJ N bs x y=([],bc N bs [x,y]):=by unfold kJ;rw[if_neg he]
  have HD:=aa hd;have HE:=aa he;obtain⟨c,hc⟩:=ag (bc N bs [x,y])
  have hc1:(c==0)=false:=by rw[←hc];simpa using he
  have hc2:(c != 0)=true:=by rw[←hc];simpa using he
  have HC:=aa hc;have HA:=aa hask;clear hd he hc hask;go_enter func114,ntmps114;go_wp2_with fail;refine HA.out.mono ?_;rintro e w1 ⟨hp,hb1⟩;unfold cB at hp;rw[if_neg HE.out,HC.out] at hp;subst hp;go_wp2_with fail;go_ret2;refine⟨?_,bB hB0 hb1⟩;rw[HD.out,HC.out];exact⟨_,rfl,World.ownsRow_nil _ _ _ _⟩
theorem zl:(Tryz.prog.info? 3).map (fun i=>(i.zero,i.size,i.bytes))=some (some (.int .i64 0),1,8):=by kernel_rfl
theorem zj:(Tryz.prog.info? 4).map (fun i=>(i.zero,i.size,i.bytes))=some (some (.bool false),1,1):=by kernel_rfl
theorem su (R:Nat):madeCells #[Value.int .i64 0] R=bt (List.replicate R 0):=by
 apply Array.toList_inj.1
 rw[toList_madeCells_one];simp[bt,ay]
theorem lJ (R:Nat):madeCells #[Value.bool false] R=eM (List.replicate R false):=by
 apply Array.toList_inj.1
 rw[toList_madeCells_one];simp[eM,nk]
end Go.Proofs.YtkhemfnlflbniaaGreatDoor
namespace Go.Proofs
open Go.Shelf Tryz
def Tryz.lays189_ren:Go.Shelf.Ren:=⟨fun|189=>233|125=>276|257=>275|128=>307|129=>308|294=>298|295=>299|296=>300|297=>301|298=>302|299=>303|216=>304|300=>305|301=>306|328=>326|329=>327|330=>328|331=>329|332=>330|215=>331|343=>349|n=>n,fun|28=>52|3=>3|46=>51|0=>0|51=>317|53=>319|4=>4|183=>311|182=>310|131=>214|5=>5|9=>9|218=>327|222=>331|228=>344|229=>108|n=>n,fun|n=>n⟩
theorem Tryz.lays189:Go.Proofs.Lays.n189 prog Tryz.lays189_ren:={
 mixed:=by kernel_rfl
 f125:=Tryz.func276.trans (congrArg some (by kernel_rfl))
 f128:=Tryz.func307.trans (congrArg some (by kernel_rfl))
 f129:=Tryz.func308.trans (congrArg some (by kernel_rfl))
 f189:=Tryz.func233.trans (congrArg some (by kernel_rfl))
 f215:=Tryz.func331.trans (congrArg some (by kernel_rfl))
 f216:=Tryz.func304.trans (congrArg some (by kernel_rfl))
 f257:=Tryz.func275.trans (congrArg some (by kernel_rfl))
 f294:=Tryz.func298.trans (congrArg some (by kernel_rfl))
 f295:=Tryz.func299.trans (congrArg some (by kernel_rfl))
 f296:=Tryz.func300.trans (congrArg some (by kernel_rfl))
 f297:=Tryz.func301.trans (congrArg some (by kernel_rfl))
 f298:=Tryz.func302.trans (congrArg some (by kernel_rfl))
 f299:=Tryz.func303.trans (congrArg some (by kernel_rfl))
 f300:=Tryz.func305.trans (congrArg some (by kernel_rfl))
 f301:=Tryz.func306.trans (congrArg some (by kernel_rfl))
 f328:=Tryz.func326.trans (congrArg some (by kernel_rfl))
 f329:=Tryz.func327.trans (congrArg some (by kernel_rfl))
 f330:=Tryz.func328.trans (congrArg some (by kernel_rfl))
 f331:=Tryz.func329.trans (congrArg some (by kernel_rfl))
 f332:=Tryz.func330.trans (congrArg some (by kernel_rfl))
 f343:=Tryz.func349.trans (congrArg some (by kernel_rfl))
 t0:=underlying0
 a0:=isAgg0
 z0:=sizeOf0
 v0:=zeroValue0
 t3:=underlying3
 a3:=isAgg3
 z3:=sizeOf3
 v3:=zeroValue3
 t4:=underlying4
 a4:=isAgg4
 z4:=sizeOf4
 v4:=zeroValue4
 t5:=underlying5
 a5:=isAgg5
 z5:=sizeOf5
 v5:=zeroValue5
 t9:=underlying9
 a9:=isAgg9
 z9:=sizeOf9
 v9:=zeroValue9
 t28:=underlying52
 a28:=isAgg52
 z28:=sizeOf52
 v28:=zeroValue52
 t46:=underlying51
 a46:=isAgg51
 z46:=sizeOf51
 v46:=zeroValue51
 t51:=underlying317
 a51:=isAgg317
 z51:=sizeOf317
 v51:=zeroValue317
 t53:=underlying319
 a53:=isAgg319
 z53:=sizeOf319
 v53:=zeroValue319
 t131:=underlying214
 a131:=isAgg214
 z131:=sizeOf214
 v131:=zeroValue214
 t182:=underlying310
 a182:=isAgg310
 z182:=sizeOf310
 v182:=zeroValue310
 t183:=underlying311
 a183:=isAgg311
 z183:=sizeOf311
 v183:=zeroValue311
 t218:=underlying327
 a218:=isAgg327
 z218:=sizeOf327
 v218:=zeroValue327
 t222:=underlying331
 a222:=isAgg331
 z222:=sizeOf331
 v222:=zeroValue331
 t228:=underlying344
 a228:=isAgg344
 z228:=sizeOf344
 v228:=zeroValue344
 t229:=underlying108
 a229:=isAgg108
 z229:=sizeOf108
 v229:=zeroValue108 }
open Go.Sort Go.RowKit in
theorem Tryz.slices_Sort_int (blk off cap:Nat) (zs:List Int) (w:World) (hH:Holds (Value.int .i64) w blk off zs.toArray) (hblk:blk<w.heap.size) (hsz:zs.length<4611686018427387904) :
 Calls prog 233 #[.slice (some ⟨blk,off,none⟩) zs.length cap] w fun e w' =>
  e=.returned (.tuple #[])∧∃n os,w'=grow (putRow (Value.int .i64) (Sort.ahead w n) blk off (zs.mergeSort fun x y=>decide (x≤y)).toArray) os:=Any.slices_Sort_int Tryz.lays189 blk off cap zs w hH hblk hsz
open Go.Lib in
open Go.Lib in
def Tryz.lays107_ren:Go.Shelf.Ren:=⟨fun|107=>243|108=>281|n=>n,fun|28=>52|3=>3|4=>4|0=>0|n=>n,fun|n=>n⟩
theorem Tryz.lays107:Go.Proofs.Lays.n107 prog Tryz.lays107_ren:={
 mixed:=by kernel_rfl
 f107:=Tryz.func243.trans (congrArg some (by kernel_rfl))
 f108:=Tryz.func281.trans (congrArg some (by kernel_rfl))
 t0:=underlying0
 a0:=isAgg0
 z0:=sizeOf0
 v0:=zeroValue0
 t3:=underlying3
 a3:=isAgg3
 z3:=sizeOf3
 v3:=zeroValue3
 t4:=underlying4
 a4:=isAgg4
 z4:=sizeOf4
 v4:=zeroValue4
 t28:=underlying52
 a28:=isAgg52
 z28:=sizeOf52
 v28:=zeroValue52 }
open Go.Lib in
theorem Tryz.slices_Contains_int (b off n c:Nat) (zs:List Int) (x:Int) (w:World) (hz:n≤zs.length) (hbig:n≤9223372036854775807) (hc:∀j,j<zs.length→w.cell? ⟨b,off+j,none⟩=some (.int .i64 (zs.getD j 0))) :
 Calls prog 243 #[.slice (some ⟨b,off,none⟩) n c,.int .i64 x] w fun e w'=>e=.returned (.bool ((zs.take n).contains x))∧w'=w:=Any.slices_Contains_int Tryz.lays107 b off n c zs x w hz hbig hc
open Go.Lib in
theorem Tryz.slices_Contains_int_empty (a:Option Addr) (c:Nat) (x:Int) (w:World) :
 Calls prog 243 #[.slice a 0 c,.int .i64 x] w fun e w'=>e=.returned (.bool false)∧w'=w:=Any.slices_Contains_int_empty Tryz.lays107 a c x w
open Go.Lib in
open Go.Lib in
def Tryz.lays110_ren:Go.Shelf.Ren:=⟨fun|110=>261|109=>284|n=>n,fun|31=>23|9=>9|4=>4|3=>3|0=>0|n=>n,fun|n=>n⟩
theorem Tryz.lays110:Go.Proofs.Lays.n110 prog Tryz.lays110_ren:={
 mixed:=by kernel_rfl
 f109:=Tryz.func284.trans (congrArg some (by kernel_rfl))
 f110:=Tryz.func261.trans (congrArg some (by kernel_rfl))
 t0:=underlying0
 a0:=isAgg0
 z0:=sizeOf0
 v0:=zeroValue0
 t3:=underlying3
 a3:=isAgg3
 z3:=sizeOf3
 v3:=zeroValue3
 t4:=underlying4
 a4:=isAgg4
 z4:=sizeOf4
 v4:=zeroValue4
 t9:=underlying9
 a9:=isAgg9
 z9:=sizeOf9
 v9:=zeroValue9
 t31:=underlying23
 a31:=isAgg23
 z31:=sizeOf23
 v31:=zeroValue23 }
open Go.Lib in
theorem Tryz.slices_Contains_string (b off n c:Nat) (zs:List ByteArray) (x:ByteArray) (w:World) (hz:n≤zs.length) (hbig:n≤9223372036854775807) (hc:∀j,j<zs.length→w.cell? ⟨b,off+j,none⟩=some (.string (zs.getD j ByteArray.empty))) :
 Calls prog 261 #[.slice (some ⟨b,off,none⟩) n c,.string x] w fun e w'=>e=.returned (.bool (Lib.containsS (zs.take n) x))∧w'=w:=Any.slices_Contains_string Tryz.lays110 b off n c zs x w hz hbig hc
open Go.Lib in
def Tryz.lays113_ren:Go.Shelf.Ren:=⟨fun|113=>201|n=>n,fun|28=>52|3=>3|4=>4|9=>9|20=>20|0=>0|n=>n,fun|n=>n⟩
theorem Tryz.lays113:Go.Proofs.Lays.n113 prog Tryz.lays113_ren:={
 mixed:=by kernel_rfl
 f113:=Tryz.func201.trans (congrArg some (by kernel_rfl))
 t0:=underlying0
 a0:=isAgg0
 z0:=sizeOf0
 v0:=zeroValue0
 t3:=underlying3
 a3:=isAgg3
 z3:=sizeOf3
 v3:=zeroValue3
 t4:=underlying4
 a4:=isAgg4
 z4:=sizeOf4
 v4:=zeroValue4
 t9:=underlying9
 a9:=isAgg9
 z9:=sizeOf9
 v9:=zeroValue9
 t20:=underlying20
 a20:=isAgg20
 z20:=sizeOf20
 v20:=zeroValue20
 t28:=underlying52
 a28:=isAgg52
 z28:=sizeOf52
 v28:=zeroValue52 }
open Go.Lib in
theorem Tryz.slices_Max_int (b off n c:Nat) (zs:List Int) (w:World) (hn:0<n) (hz:n≤zs.length) (hbig:n≤9223372036854775807) (hc:∀j,j<zs.length→w.cell? ⟨b,off+j,none⟩=some (.int .i64 (zs.getD j 0))) :
 Calls prog 201 #[.slice (some ⟨b,off,none⟩) n c] w fun e w'=>e=.returned (.int .i64 (Lib.maxOf (zs.take n)))∧w'=w:=Any.slices_Max_int Tryz.lays113 b off n c zs w hn hz hbig hc
def Tryz.lays114_ren:Go.Shelf.Ren:=⟨fun|114=>200|n=>n,fun|28=>52|3=>3|4=>4|9=>9|20=>20|0=>0|n=>n,fun|n=>n⟩
theorem Tryz.lays114:Go.Proofs.Lays.n114 prog Tryz.lays114_ren:={
 mixed:=by kernel_rfl
 f114:=Tryz.func200.trans (congrArg some (by kernel_rfl))
 t0:=underlying0
 a0:=isAgg0
 z0:=sizeOf0
 v0:=zeroValue0
 t3:=underlying3
 a3:=isAgg3
 z3:=sizeOf3
 v3:=zeroValue3
 t4:=underlying4
 a4:=isAgg4
 z4:=sizeOf4
 v4:=zeroValue4
 t9:=underlying9
 a9:=isAgg9
 z9:=sizeOf9
 v9:=zeroValue9
 t20:=underlying20
 a20:=isAgg20
 z20:=sizeOf20
 v20:=zeroValue20
 t28:=underlying52
 a28:=isAgg52
 z28:=sizeOf52
 v28:=zeroValue52 }
open Go.Lib in
theorem Tryz.slices_Min_int (b off n c:Nat) (zs:List Int) (w:World) (hn:0<n) (hz:n≤zs.length) (hbig:n≤9223372036854775807) (hc:∀j,j<zs.length→w.cell? ⟨b,off+j,none⟩=some (.int .i64 (zs.getD j 0))) :
 Calls prog 200 #[.slice (some ⟨b,off,none⟩) n c] w fun e w'=>e=.returned (.int .i64 (Lib.minOf (zs.take n)))∧w'=w:=Any.slices_Min_int Tryz.lays114 b off n c zs w hn hz hbig hc
def Tryz.laysNm220_ren:Go.Shelf.Ren:=⟨fun|20=>234|n=>n,fun|22=>52|3=>3|4=>4|0=>0|n=>n,fun|n=>n⟩
theorem Tryz.laysNm220:Go.Proofs.Lays2.n20 prog Tryz.laysNm220_ren:={
 mixed:=by kernel_rfl
 f20:=Tryz.func234.trans (congrArg some (by kernel_rfl))
 t0:=underlying0
 a0:=isAgg0
 z0:=sizeOf0
 v0:=zeroValue0
 t3:=underlying3
 a3:=isAgg3
 z3:=sizeOf3
 v3:=zeroValue3
 t4:=underlying4
 a4:=isAgg4
 z4:=sizeOf4
 v4:=zeroValue4
 t22:=underlying52
 a22:=isAgg52
 z22:=sizeOf52
 v22:=zeroValue52
 i3:=by kernel_rfl }
open Go.RowKit Go.Lib Go.Sort in
open Go.RowKit Go.Lib Go.Sort in
theorem Tryz.slices_Compact_int (blk off cap:Nat) (zs:List Int) (w:World) (hH:Holds (Value.int .i64) w blk off zs.toArray) (hsz:zs.length≤9223372036854775807) (hcap:zs.length≤cap) :
 Calls prog 234 #[.slice (some ⟨blk,off,none⟩) zs.length cap] w fun e w'=>e=.returned (.slice (some ⟨blk,off,none⟩) (Lib.compact zs).length cap)∧∃q,w'=putRow (Value.int .i64) (Sort.ahead w q) blk off (Lib.compact zs++List.replicate (zs.length-(Lib.compact zs).length) 0).toArray:=Any.slices_Compact_int Tryz.laysNm220 blk off cap zs w hH hsz hcap
open Go.RowKit Go.Lib Go.Sort in
theorem Tryz.slices_Compact_int_empty (a:Option Addr) (cap:Nat) (w:World) :
 Calls prog 234 #[.slice a 0 cap] w fun e w'=>e=.returned (.slice a 0 cap)∧w'=w:=Any.slices_Compact_int_empty Tryz.laysNm220 a cap w
open Go.RowKit Go.Lib in
open Go.RowKit Go.Lib in
open Go.RowKit Go.Lib Go.Sort in
open Go.RowKit Go.Sort in
theorem Tryz.slices_Sort_int_none (p:Option Addr) (cap:Nat) (w:World) :
 Calls prog 233 #[.slice p 0 cap] w fun e w'=>e=.returned (.tuple #[])∧w'=w:=Any.slices_Sort_int_none Tryz.lays189 p cap w
end Go.Proofs
namespace Go.Proofs.YtkhemfnlflbniaaGreatDoor
open Go Go.RowKit Go.Shelf Tryz
theorem qc (w:World) (os:Array Obj) {k:Nat} (h:k<w.heap.size):(Sort.grow w os).heap[k]?=w.heap[k]?:=by
 show(w.heap++os)[k]?=_
 rw[Array.getElem?_append_left h]
theorem uG {B:Nat} {w0 w:World} (h:Below B w0 w) (hB:B≤w.heap.size) (os:Array Obj):Below B w0 (Sort.grow w os) :=
 ⟨h.os,h.tape,h.output,by have:=h.size;simp;omega,fun k hk=>by rw[qc w os (by omega)];exact h.block k hk⟩
theorem o5 {W:World} {base:Nat} {e:TypeId} {size:Nat} {v:Value} {n:Nat} {xs:List Value} (h:W.ownsRow base e size v n xs) {g:Nat} (hg:v.ownBlock=some g):g<W.heap.size:=by
 rcases h.2 with ⟨e1,_⟩|⟨g1,cp',cu,e1,hb,hh,_⟩
 ·rw[e1] at hg;simp[Value.ownBlock] at hg
 ·rw[e1] at hg
  simp only[Value.ownBlock,Option.some.injEq] at hg;subst hg;exact lt_of_block hh
def jB (l:List Int):List Int:=l.mergeSort fun x y=>decide (x≤y)
theorem iA (l:List Int):(jB l).length=l.length:=by simp[jB]
theorem zU (w:World) (base:Nat) (v:Value) (l:List Int) (hl:l.length<4611686018427387904) (h:w.ownsRow base 3 1 v l.length (ay l)) (hb0:base≤w.heap.size) :
 Calls prog 233 #[v] w fun e w'=>e=.returned (.tuple #[])∧w'.ownsRow base 3 1 v l.length (ay (jB l))∧Below base w w':=by
 by_cases hv:v=.slice none 0 0
 ·subst hv
  have h0:l=[]:=by
   rcases h.2 with ⟨_,e⟩|⟨g,cp,cu,e,_⟩
   ·exact List.length_eq_zero_iff.1 e
   ·cases e
  subst h0
  exact(Tryz.slices_Sort_int_none none 0 w).mono fun e w' ⟨h1,h2⟩=>⟨h1,by rw[h2,show jB []=[] from by simp[jB]];exact World.ownsRow_nil _ _ _ _,by rw[h2];exact Below.refl _ _⟩
 ·obtain⟨g,cap,rfl,hb,hg,hc,_,_,hH⟩:=Lib.holds_of_ownsRow (enc:=Value.int .i64) (zs:=l) h hv
  refine(Tryz.slices_Sort_int g 0 cap l w hH hg hl).mono fun e w' ⟨h1,n,os,h2⟩=>⟨h1,?_,?_⟩
  ·rw[h2]
   have:=Lib.ownsRow_putRow (enc:=Value.int .i64) (zs:=l) (q:=n) (k:=l.length) (ys:=jB l) h (iA l) (Nat.le_refl _);rw[List.take_of_length_le (by rw[iA];exact Nat.le_refl _)] at this;exact av this (fun q e=>qc _ _ (o5 this e))
  ·rw[h2];exact uG (Lib.below_putRow (Below.refl _ _) hb) (by simp;omega) os
theorem sP (w:World) (base:Nat) (v:Value) (l:List Int) (hl:l.length≤9223372036854775807) (h:w.ownsRow base 3 1 v l.length (ay l)) :
 Calls prog 234 #[v] w fun e w'=>∃v',e=.returned v'∧w'.ownsRow base 3 1 v' (Lib.compact l).length (ay (Lib.compact l))∧Below base w w':=by
 by_cases hv:v=.slice none 0 0
 ·subst hv
  have h0:l=[]:=by
   rcases h.2 with ⟨_,e⟩|⟨g,cp,cu,e,_⟩
   ·exact List.length_eq_zero_iff.1 e
   ·cases e
  subst h0
  exact(Tryz.slices_Compact_int_empty none 0 w).mono fun e w' ⟨h1,h2⟩=>⟨_,h1,by rw[h2];exact World.ownsRow_nil _ _ _ _,by rw[h2];exact Below.refl _ _⟩
 ·obtain⟨g,cap,rfl,hb,hg,hc,_,_,hH⟩:=Lib.holds_of_ownsRow (enc:=Value.int .i64) (zs:=l) h hv
  refine(Tryz.slices_Compact_int g 0 cap l w hH hl hc).mono fun e w' ⟨h1,n,h2⟩=>⟨_,h1,?_,?_⟩
  ·rw[h2]
   have hle:(Lib.compact l).length≤l.length:=Lib.compact_length_le l;have:=Lib.ownsRow_putRow (enc:=Value.int .i64) (zs:=l) (q:=n) (k:=(Lib.compact l).length) (ys:=Lib.compact l++List.replicate (l.length-(Lib.compact l).length) 0) h (by simp;omega) hle;rwa [List.take_left' rfl] at this
  ·rw[h2];exact Lib.below_putRow (Below.refl _ _) hb
def jr (bs:List Bd):List Int:=(bs.filter fun b=>decide (0<b.rcd)).map Bd.rcd
def bY (bs:List Bd):List Int:=Lib.compact (jB (jr bs))
theorem xu (bs:List Bd) (b:Bd):jr (bs++[b])=jr bs++(if 0<b.rcd then[b.rcd] else[]):=by
 unfold jr;rw[List.filter_append,List.map_append]
 by_cases h:0<b.rcd<;>simp[h]
theorem ue (bs:List Bd):(jr bs).length≤bs.length:=by
 unfold jr;rw[List.length_map];exact List.length_filter_le _ _
theorem sV (w:World) (a:Option Addr) (cap:Nat) (bs:List Bd) (hl:bs.length≤4000) (h:BoundsAt w a bs) :
 Calls prog 159 #[.slice a bs.length cap] w fun e w'=>∃v,e=.returned v∧w'.ownsRow w.heap.size 3 1 v (bY bs).length (ay (bY bs))∧Below w.heap.size w w':=by
 have H:=aa h;clear h;go_enter func159,ntmps159;go_wp2_with fail
 go_loopw [3,8] (fun v i wr=>∃k:Nat,k≤bs.length∧i=.int .i64 k∧Hid (wr.ownsRow w.heap.size 3 1 v (jr (bs.take k)).length (ay (jr (bs.take k))))∧Below w.heap.size w wr)
  (fun _ i _=>bs.length-(intOf i).toNat)
 case atStart=>exact⟨0,Nat.zero_le _,rfl,aa (World.ownsRow_nil _ _ _ _),by go_grown⟩
 case round =>
  obtain⟨k,hk,rfl,hown,hb⟩:=hrel
  by_cases hlt:k<bs.length
  ·obtain⟨b,off,rfl,hbl,hcs⟩:=H.out.at hlt
   obtain⟨c0,c1,c2,c3⟩:=hcs.below hb hbl
   have htk:jr (bs.take (k+1))=jr (bs.take k)++(if 0<bs[k].rcd then[bs[k].rcd] else[]):=by rw[List.take_succ_eq_append_getElem hlt,xu]
   have hrl:(jr (bs.take k)).length≤4000:=Nat.le_trans (ue _) (by simp;omega);obtain⟨y,hy⟩:=ag (bs[k]);rw[hy] at c0 c1 c2 c3 htk;obtain⟨ys,yd,ym,yr⟩:=y;simp only at c0 c1 c2 c3 htk;have HTK:=aa htk;have HRLe:=aa hrl;clear hy hcs htk hrl
   by_cases hpos:0<yr
   ·have own1:=hown.out.alloc (.cells #[.int .i64 ys,.int .i64 yd,.int .i64 ym,.int .i64 yr] 65)
    obtain⟨i0,hi,hz0,hz1,hz2⟩:=info_parts wJ
    obtain⟨v',wa,hrun,hown',hgrow,hnil,hblk⟩:=run_append_own_at (P:=prog) ((wr.alloc (.cells #[.int .i64 ys,.int .i64 yd,.int .i64 ym,.int .i64 yr] 65)).alloc (Obj.cells #[.int .i64 yr] 3)) w.heap.size 52 52 3 i0 _ 1 8 underlying52 hi hz0 hz1 hz2 rfl (by decide) u3 _ _
     (own1.alloc _) ⟨wr.heap.size+1,0,none⟩ 1 1 [.int .i64 yr] rfl (by have:=cell_one_new (wr.alloc (.cells #[.int .i64 ys,.int .i64 yd,.int .i64 ym,.int .i64 yr] 65)) (.int .i64 yr) 3;simpa using this) (by intro u hu;simp at hu;subst hu;rfl) (by have:=HRLe.out;unfold maxLen;omega) (by have:=HRLe.out;omega) (by have:=hb.size;simp;omega)
    have hbl2:Below w.heap.size w wa:=((hb.alloc hb.size _).alloc (by have:=hb.size;simp;omega) _).grown hgrow (by have:=hb.size;simp;omega) (fun q e=>by
     rcases own1.2 with ⟨e1,_⟩|⟨g1,cp',cu,e1,hge,hh,_⟩
     ·rw[e1] at e;simp[Value.ownBlock] at e
     ·rw[e1] at e
      simp only[Value.ownBlock,Option.some.injEq] at e
      omega)
    have HRUN:=aa hrun;have HOW:=aa hown';have HBL:=aa hbl2;clear hrun hown' hgrow hnil hblk hbl2 own1 hown;go_wp2_with (at_builtin;refine aN rfl (s:=.tmp 15) (x:=.tmp 18) (t:=52) rfl rfl rfl HRUN.out ?_);go_roundw
    case rel=>exact⟨k+1,by omega,by go_num,aa (by rw[HTK.out,if_pos hpos,List.length_append];simpa [ay] using HOW.out),HBL.out⟩
    case measure=>simp[intOf];omega
   ·have own1:=aa (hown.out.alloc (.cells #[.int .i64 ys,.int .i64 yd,.int .i64 ym,.int .i64 yr] 65))
    go_wp2_with fail;go_roundw
    case rel=>exact⟨k+1,by omega,by go_num,aa (by rw[HTK.out,if_neg hpos,List.append_nil];exact own1.out),hb.alloc hb.size _⟩
    case measure=>simp[intOf];omega
  ·have hall:bs.take k=bs:=List.take_of_length_le (by omega)
   rw[hall] at hown;have hrl:=ue bs;have hsl:=iA (jr bs);have hs:=zU wr w.heap.size u3 (jr bs) (by omega) hown.out hb.size;have HS:=aa hs;clear hs hall;go_wp2_with fail;refine HS.out.mono ?_;rintro e w1 ⟨rfl,ho1,hb1⟩;rw[←hsl] at ho1;have hc:=sP w1 w.heap.size u3 (jB (jr bs)) (by omega) ho1;have HC:=aa hc;have HB1:=aa (hb.trans hb1);clear hc ho1 hb1 hsl;go_wp2_with fail;refine HC.out.mono ?_;rintro e w2 ⟨v',rfl,ho2,hb2⟩;have HO2:=aa ho2;have HB2:=aa (HB1.out.trans hb2);clear ho2 hb2;go_wp2_with fail;go_ret;exact⟨_,rfl,HO2.out,HB2.out⟩
theorem nH {α:Type} {p:α→Bool}:∀{l:List α} {k:Nat},bk p l=(k:Int)→k<l.length∧(l.take k).any p=false∧∃h:k<l.length,p l[k]=true
 | [],k,h=>by simp[bk] at h
 | x::l,k,h=>by
   unfold bk at h
   by_cases hx:p x=true
   ·rw[if_pos hx] at h
    have:k=0:=by omega
    subst this;exact⟨by simp,by simp,by simp,by simpa using hx⟩
   ·rw[if_neg hx] at h
    by_cases hn:bk p l<0
    ·rw[if_pos hn] at h;omega
    ·rw[if_neg hn] at h
     obtain⟨m,rfl⟩:∃m,k=m+1:=⟨k-1,by omega⟩;obtain⟨h1,h2,h3,h4⟩:=nH (p:=p) (l:=l) (k:=m) (by omega);exact⟨by simp;omega,by rw[List.take_succ_cons,List.any_cons,h2];simpa using hx,by simp;omega,by simpa using h4⟩
theorem je {g:Nat} {t:TypeId}:∀(vs:List Value) (o:Nat) (W:World) (C:Array Value),W.heap[g]?=some (.cells C t (0,0))→∃C':Array Value,(W.setCells g o vs).heap[g]?=some (.cells C' t (0,0))∧C'.size=C.size∧∀k,k<o→C'[k]?=C[k]?
 | [],_,_,C,h=>⟨C,h,rfl,fun _ _=>rfl⟩
 | v::vs,o,W,C,h=>by
   obtain⟨C',h1,h2,h3⟩:=je vs (o+1) (W.setCell ⟨g,o,none⟩ v) (C.setIfInBounds o v) (heap_setCell_same _ _ _ _ _ _ h);refine⟨C',h1,by rw[h2,Array.size_setIfInBounds],fun k hk=>?_⟩;rw[h3 k (by omega),Array.getElem?_setIfInBounds,if_neg (by omega)]
theorem jd {B:Nat} {w0 W:World} (h:Below B w0 W) {g:Nat} (hg:B≤g):∀(o:Nat) (vs:List Value),Below B w0 (W.setCells g o vs)
 | o,vs=>by
   induction vs generalizing W o with
   | nil=>exact h
   | cons v vs ih=>exact ih (h.setCell (by exact hg) v) (o+1)
def aQ (N:Int) (bs:List Bd):Bool×Int:=if aO N bs=0 then((aG N bs).isSome,0) else(false,aO N bs)
theorem gm (w:World) (N:Int) (a:Option Addr) (cap:Nat) (bs:List Bd) (hN:bK N) (hl:bs.length≤9223372036854775807) (h:BoundsAt w a bs) :
 Calls prog 150 #[.agg #[.int .i64 N,.slice a bs.length cap]] w fun e w'=>e=.returned (.tuple #[.bool (aQ N bs).1,.int .i64 (aQ N bs).2])∧Below w.heap.size w w':=by
 have H:=aa h;have HN:=aa hN;clear h hN;have hB0:Below w.heap.size w (w.alloc (.cells #[.int .i64 N,.slice a bs.length cap] 61)):=aD;have hck:=fO (w.alloc (.cells #[.int .i64 N,.slice a bs.length cap] 61)) N a cap bs HN.out hl (H.out.alloc _)
 by_cases hc:aO N bs=0
 ·obtain⟨n0,n1,n2,nv⟩:=cR hc
  obtain⟨o,ho⟩:=ag (aG N bs)
  have hd:aQ N bs=(o.isSome,0):=by unfold aQ;rw[if_pos hc,ho]
  rw[hc] at hck;have HC:=aa hck;have HD:=aa hd;have HO:=aa ho;have NV:=aa nv;clear hc hck hd ho nv;go_enter func150,ntmps150;go_wp2_with fail;refine HC.out.mono ?_;rintro e w1 ⟨rfl,hb1⟩;have hbx:=ac hb1 (by simp) (heap_alloc_new w (.cells #[.int .i64 N,.slice a bs.length cap] 61));have c0:w1.cell? ⟨w.heap.size,0,none⟩=some (.int .i64 N):=bu hbx rfl;have c1:w1.cell? ⟨w.heap.size,1,none⟩=some (.slice a bs.length cap):=bu hbx rfl;have B1:=bB hB0 hb1;have hop:=oU w1 N a cap bs n0 n1 (by omega) (H.out.below B1 (Nat.le_refl _)) (fun b hb=>(NV.out b hb).1);rw[HO.out] at hop;have HOP:=aa hop;have HB1:=aa B1;clear hbx hb1 B1 hop;go_wp2_with fail;refine HOP.out.mono ?_;rintro e w2 ⟨hp,hb2⟩;have HB2:=bU HB1 hb2;clear hb2
  cases o with
  | none =>
    simp only[jY] at hp;subst hp;go_wp2_with fail;go_ret2;exact⟨by rw[HD.out];rfl,HB2.out⟩
  | some t =>
    obtain⟨b,rfl,_,_⟩:=hp;go_wp2_with fail;go_ret2;exact⟨by rw[HD.out];rfl,HB2.out⟩
 ·have hd:aQ N bs=(false,aO N bs):=by unfold aQ;rw[if_neg hc]
  obtain⟨c,hcc⟩:=ag (aO N bs);rw[hcc] at hck hd hc
  have hc1:(c==0)=false:=by simpa using hc
  have hc2:(c != 0)=true:=by simpa using hc
  have HC:=aa hck;have HD:=aa hd;clear hcc hck hd hc;go_enter func150,ntmps150;go_wp2_with fail;refine HC.out.mono ?_;rintro e w1 ⟨rfl,hb1⟩;go_wp2_with fail;go_ret2;exact⟨by rw[HD.out];rfl,bB hB0 hb1⟩
def cw (l:List Bd) (base:Nat) (v:Value) (w':World):Prop:=w'.ownsRow base 65 4 v l.length (bh l)
theorem uf (l:List Bd):∀u∈bh l,u.oneCell'=true:=by
 intro u hu;simp only[bh,List.mem_flatMap,Bd.cells,List.mem_cons,List.not_mem_nil,or_false] at hu;obtain⟨b,_,h⟩:=hu
 rcases h with rfl|rfl|rfl|rfl<;>rfl
theorem jv {w:World} {b off:Nat} {l:List Bd} (h:∀i (hi:i<l.length),l[i].cellsAt w b (off+i*4)):∀j u,(bh l)[j]?=some u→w.cell? ((⟨b,off,none⟩:Addr).add j)=some u:=by
 intro j u hj;rw[show((⟨b,off,none⟩:Addr).add j)=⟨b,off+j,none⟩ from by unfold Addr.add;split<;>simp_all]
 have hlt:j<l.length*4:=by
  have:=(List.getElem?_eq_some_iff.1 hj).1;rwa [cU] at this
 have hi:j/4<l.length:=by omega
 have hg:=gW l (j/4) hi (j%4) (by omega);rw[show j/4*4+j%4=j by omega,hj] at hg;obtain⟨h0,h1,h2,h3⟩:=h (j/4) hi
 have h4:j%4=0∨j%4=1∨j%4=2∨j%4=3:=by omega
 rcases h4 with e|e|e|e<;>rw[e] at hg<;>simp only[Bd.cells] at hg<;>simp at hg<;>rw[hg]
 ·rw[show off+j=off+j/4*4 by omega];exact h0
 ·rw[show off+j=off+j/4*4+1 by omega];exact h1
 ·rw[show off+j=off+j/4*4+2 by omega];exact h2
 ·rw[show off+j=off+j/4*4+3 by omega];exact h3
def jq (a:Option Addr) (n cap:Nat):Prop:=a=none→n=0∧cap=0
theorem mW (w:World) (a:Option Addr) (cap:Nat) (bs:List Bd) (hl:bs.length≤4000) (hs:jq a bs.length cap) (h:BoundsAt w a bs) :
 Calls prog 241 #[.slice a bs.length cap] w fun e w'=>∃v,e=.returned v∧cw bs w.heap.size v w'∧Below w.heap.size w w':=by
 cases a with
 | none =>
   obtain⟨h0,h1⟩:=hs rfl;have hb:bs=[]:=List.length_eq_zero_iff.1 h0;subst hb;subst h1;clear h hs h0 hl
   have heq:=fun W=>Lib.run_eql_slice_nil (P:=prog) (w:=W)
   go_enter func241,ntmps241;go_wp2_with fail;go_ret;exact⟨_,rfl,World.ownsRow_nil _ _ _ _,Below.refl _ _⟩
 | some ad =>
   have heq:=fun W=>Lib.run_eql_slice_nil (P:=prog) (w:=W)
   have hnews:∀j u,(bh bs)[j]?=some u→(w.alloc (.cells #[] 65)).cell? (ad.add j)=some u:=by
    rcases h.alloc (.cells #[] 65) with e|⟨b,off,e,_,hc⟩
    ·subst e;intro j u hj;simp[bh] at hj
    ·cases e;exact jv hc
   obtain⟨i0,hi,hz0,hz1,hz2⟩:=info_parts lR;have hown:(w.alloc (.cells #[] 65)).ownsRow w.heap.size 65 4 (.slice (some ⟨w.heap.size,0,none⟩) 0 0) 0 []:=⟨rfl,.inr ⟨w.heap.size,0,#[],rfl,Nat.le_refl _,heap_alloc_new _ _,Nat.le_refl _,Nat.zero_le _,rfl,rfl⟩⟩
   obtain⟨v',wa,hrun,hown',hgrow,hnil,hblk⟩:=run_append_own_at (P:=prog) (w.alloc (.cells #[] 65)) w.heap.size 59 59 65 i0 _ 4 32 underlying59 hi hz0 hz1 hz2 rfl (by decide) _ _ _
    hown ad bs.length cap (bh bs) (cU bs) hnews (uf bs) (by unfold maxLen;omega) (by omega) (by simp)
   have hbl:Below w.heap.size w wa:=((Below.refl w.heap.size w).alloc (Nat.le_refl _) _).grown hgrow (by simp) (fun q e=>by simp only[Value.ownBlock,Option.some.injEq] at e;omega);have HRUN:=aa hrun;have HOW:=aa hown';have HBL:=aa hbl;clear hrun hown' hgrow hnil hblk hown hnews h hs hbl;go_enter func241,ntmps241;go_upto_region 3 with fail;refine wp_region_lit ?_;go_wp2_with (at_builtin;refine aN rfl (s:=.tmp 5) (x:=.tmp 6) (t:=59) rfl rfl rfl HRUN.out ?_);go_ret;refine⟨_,rfl,?_,HBL.out⟩;have:=HOW.out;rw[Nat.zero_add,List.nil_append] at this;exact this
end Go.Proofs.YtkhemfnlflbniaaGreatDoor
