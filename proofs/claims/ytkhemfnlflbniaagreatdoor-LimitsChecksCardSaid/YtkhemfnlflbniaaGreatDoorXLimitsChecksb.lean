/- What the law LimitsChecks needs beyond the base: G11, G12, G13, F11, Fr, Frf. No conditions beyond those stated. -/
import Derived.Test.YtkhemfnlflbniaaGreatDoorB10
import Derived.Test.YtkhemfnlflbniaaGreatDoorB09
import Derived.Test.YtkhemfnlflbniaaGreatDoorB06
import Derived.Test.YtkhemfnlflbniaaGreatDoorB05
import Derived.Test.YtkhemfnlflbniaaGreatDoorB01
import Derived.Test.YtkhemfnlflbniaaGreatDoorB04
import Derived.Shelf.Small.Bits
import Derived.Shelf.Small.Wraps
import Derived.Shelf.Strconv.Itoa0
import Derived.Shelf.Sort.Plain
import Derived.Shelf.Slices.Turned
import Derived.Ground.Names2Prog
import Derived.Shelf.Slices.CompactI
import Derived.Shelf.Slices.Cells
import Derived.Shelf.Slices.In.SortNone
import Derived.Test.YtkhemfnlflbniaaGreatDoorProg
import Derived.Test.YtkhemfnlflbniaaGreatDoorB03
import Derived.Test.YtkhemfnlflbniaaGreatDoorB02
import Derived.WalkKit
import Derived.Handy
import Derived.RangeFuncRecord
import Derived.Shelf.Abstract
import Derived.Deep.QuietTactic
import Derived.BigQuiet
import Derived.Laws.CopyOwn
import Derived.WalkSmall
import Derived.RangeFuncNested
import Derived.RangeFuncBound
import Derived.RangeFuncCalls
import Derived.RangeFuncLeaves
import Derived.Shelf.RegionOpen
import Derived.OwnWalkIn
import Derived.TacticsInMore
import Derived.LoopNIn
import Derived.LoopIn
import Derived.Maps.AppendAt
import Derived.Deep.Onto
import Derived.OrdersHeld
import Derived.Deep.LoopGhost
import Derived.Deep.WholeRow
import Derived.Deep.OwnRows
import Derived.StillTailTactics
import Derived.Great.Walk
import Derived.Great.BuildSlice
import Derived.WalkMore
import Derived.Deep.MidRow
import Derived.Deep.RegionHeld3
import Derived.Deep.DeepCutAuto
import Derived.Lib.OwnBridge
import Derived.Lib.SliceRun
import Derived.WalkSpells
import Derived.Deep.RegionWith
import Derived.Lib.AppendZerosOnto
import Derived.Deep.CutBlock
import Derived.Test.YtkhemfnlflbniaaGreatDoorB08
import Derived.Test.YtkhemfnlflbniaaGreatDoorB07
import Derived.IntWalk
import Derived.Deep.Cut
import Derived.Laws.Rows
import Derived.Laws.Tables
import Derived.Test.YtkhemfnlflbniaaGreatDoorB12
import Derived.Test.YtkhemfnlflbniaaGreatDoorB11
import Derived.Laws.StructEq
import Derived.OrdersIn
import Derived.RangeFuncBox
import Derived.Test.YtkhemfnlflbniaaGreatDoorB15
import Derived.Test.YtkhemfnlflbniaaGreatDoorB14
import Derived.Test.YtkhemfnlflbniaaGreatDoorB13
import Derived.Test.YtkhemfnlflbniaaGreatDoorRows
import Derived.ProofKit
import Derived.OpenShut
import Derived.Carry
import Derived.Lib.SmallJoins
import Derived.Deep.Slices
import Derived.ChangeMaps5
import Derived.Test.YtkhemfnlflbniaaGreatDoorXLimitsChecksa
set_option maxRecDepth 100000
set_option maxHeartbeats 8000000
namespace Go.Proofs.YtkhemfnlflbniaaGreatDoor
open Go Go.RowKit Go.Shelf Go.Proofs.Tryz
theorem appendB3 {w:World} {base base2:Nat} {v v2:Value} {bs news:List Bd} (hown:w.ownsRow base 65 4 v bs.length (bh bs)) (h2:w.ownsRow base2 65 4 v2 news.length (bh news)) (hne:news≠[]) (hx:bs.length≤100000) (hn:news.length≤100000) (hb:base≤w.heap.size) (ty:TypeId) :
 ∃v' w',(Builtin.append_ #[59,59] ty #[v,v2]).run prog w=.ok v' w'∧w'.ownsRow base 65 4 v' (bs++news).length (bh (bs++news))∧Below base w w' ∧
  (∀(k:Nat) (cs:Array Value) (t:TypeId) (f:Nat×Nat),w.heap[k]?=some (.cells cs t f)→t≠65→w'.heap[k]?=some (.cells cs t f))∧(∀q,q<w.heap.size→v.ownBlock≠some q→w'.heap[q]?=w.heap[q]?):=by
 obtain⟨hl2,⟨e1,e2⟩|⟨g,cap,cur,e1,_,hgb,hcap,_,hcs,htk⟩⟩:=h2
 ·exact absurd (List.length_eq_zero_iff.1 e2) hne
 subst e1;obtain⟨i0,hi,hz0,hz1,hz2⟩:=info_parts lR
 have hnews:∀j u,(bh news)[j]?=some u→w.cell? ((⟨g,0,none⟩:Addr).add j)=some u:=by
  intro j u hj;rw[show((⟨g,0,none⟩:Addr).add j)=⟨g,0+j,none⟩ from by unfold Addr.add;split<;>simp_all];rw[cell_of_row _ _ _ _ _ _ hgb,Nat.zero_add]
  have hlt:j<news.length*4:=by rw[←hl2];exact(List.getElem?_eq_some_iff.1 hj).1
  rw[←htk,List.getElem?_take_of_lt hlt] at hj;simpa using hj
 have h1:∀u∈bh news,u.oneCell'=true:=by
  intro u hu;unfold bh at hu;obtain⟨d,_,hd⟩:=List.mem_flatMap.1 hu;simp[Bd.cells] at hd
  rcases hd with rfl|rfl|rfl|rfl<;>rfl
 have hm:(bs.length+news.length)*32≤200000*32:=Nat.mul_le_mul (by omega) (Nat.le_refl _);obtain⟨v',w',hrun,q2,h3,_,h5⟩:=run_append_own_at (P:=prog) w base 59 ty 65 i0 _ 4 32 underlying59 hi hz0 hz1 hz2 rfl (by decide) v _ _ hown ⟨g,0,none⟩ news.length cap (bh news) (cU _) hnews h1 (by unfold maxLen;omega) (by omega) hb;refine⟨v',w',hrun,by rw[List.length_append,dI];exact q2,(Below.refl base w).grown h3 hb (fun q e=>?_),fun k cs t f hk ht=>?_,fun q hq hne=>h3.block q hq (fun e=>hne e.symm)⟩
 ·rcases hown.2 with ⟨e1,_⟩|⟨g1,cp',cu,e1,hge,hh,_⟩
  ·rw[e1] at e;simp[Value.ownBlock] at e
  ·rw[e1] at e
   simp only[Value.ownBlock,Option.some.injEq] at e;omega
 ·rw[h3.block k (lt_of_block hk) ?_]
  ·exact hk
  ·intro e
   rcases hown.2 with ⟨e1,_⟩|⟨g2,cap2,cur2,e1,_,hgb2,_⟩
   ·rw[e1] at e;cases e
   ·rw[e1] at e
    simp only[Value.ownBlock,Option.some.injEq] at e;subst e;rw[hk] at hgb2;cases hgb2;exact ht rfl
theorem empty_owns {W:World} {B:Nat} (hB:B≤W.heap.size):(W.alloc (.cells #[] 65)).ownsRow B 65 4 (.slice (some ⟨W.heap.size,0,none⟩) 0 0) ([]:List Bd).length (bh []) :=
 ⟨rfl,.inr ⟨W.heap.size,0,#[],rfl,hB,heap_alloc_new _ _,Nat.le_refl _,Nat.zero_le _,rfl,rfl⟩⟩
theorem call_mid18 {W:World} {b off k:Nat} {r:Rcd} (hc:∀j,j<18→W.cell? ⟨b,off+k*18+j,none⟩=r.cells[j]?):W.rangeAt b (off+k*18+5) r.call.vals.toList:=by
 intro j v hv;have hj:j<13:=(List.getElem?_eq_some_iff.1 hv).1;have:=hc (5+j) (by omega);rw[show off+k*18+(5+j)=off+k*18+5+j by omega] at this;rw[this,←hv]
 show(r.vals.toList)[5+j]?=_
 rw[←List.getElem?_drop]
 rfl
structure QS (w:World) (x:FV) (F:Fld) (P:Int) (g:Nat) (v:Value) (bs:List Bd) (W:World):Prop where
 own:W.ownsRow w.heap.size 65 4 v bs.length (bh bs)
 b:Below w.heap.size w W
 k:W.heap[w.heap.size]?=some (.cells (x.arr F) 27 (0,0))
 z:W.heap[w.heap.size+1]?=some (.cells #[.int .i64 0,.slice none 0 0] 61 (0,0))
 s:W.heap[g]?=some (.cells #[.int .i64 P,v] 61 (0,0))
theorem QS.ge {w:World} {x:FV} {F:Fld} {P:Int} {g:Nat} {v:Value} {bs:List Bd} {W:World} (_h:QS w x F P g v bs W) (hg:w.heap.size+2≤g):w.heap.size≤g:=by omega
theorem QS.next {w:World} {x:FV} {F:Fld} {P:Int} {g:Nat} {v:Value} {bs:List Bd} {W W':World} (h:QS w x F P g v bs W) (hb:Below W.heap.size W W'):QS w x F P g v bs W' :=
 ⟨av h.own (fun q hq=>hb.block q (jh h.own hq).1),bB h.b hb,ac hb (lt_of_block h.k) h.k,ac hb (lt_of_block h.z) h.z,ac hb (lt_of_block h.s) h.s⟩
theorem QS.put {w W W':World} {x:FV} {F:Fld} {P:Int} {g:Nat} {v v':Value} {bs cs:List Bd} (h:QS w x F P g v bs W) (hg:w.heap.size+2≤g) (hn:W'.ownsRow w.heap.size 65 4 v' cs.length (bh cs)) (hb:Below w.heap.size w W')
 (hty:∀(k:Nat) (cs:Array Value) (t:TypeId) (f:Nat×Nat),W.heap[k]?=some (.cells cs t f)→t≠65→W'.heap[k]?=some (.cells cs t f)):QS w x F P g v' cs (W'.setCell ⟨g,1,none⟩ v'):=by
 have hk:=hty _ _ _ _ h.k (by decide);have hz:=hty _ _ _ _ h.z (by decide);have hs:=hty _ _ _ _ h.s (by decide);refine⟨av hn (fun q hq=>?_),hb.setCell (by dsimp only;omega) _,?_,?_,?_⟩
 ·refine heap_setCell_other _ _ _ _ (fun e=>?_)
  have e2:q=g:=e;subst e2
  rcases hn.2 with ⟨e1,_⟩|⟨g1,cp',cu,e1,_,hh,_⟩
  ·rw[e1] at hq;cases hq
  ·rw[e1] at hq
   simp only[Value.ownBlock,Option.some.injEq] at hq;subst hq;rw[hs] at hh;cases hh
 ·rw[heap_setCell_other _ _ _ _ (by dsimp only;omega)];exact hk
 ·rw[heap_setCell_other _ _ _ _ (by dsimp only;omega)];exact hz
 ·have:=Go.heap_setCell_same _ _ 1 _ _ v' hs
  simpa using this
theorem QS.fin {w W:World} {x:FV} {F:Fld} {P:Int} {g:Nat} {v:Value} {bs:List Bd} (h:QS w x F P g v bs W) (cs:Array Value):(W.setRow (w.heap.size+1) cs).ownsRow w.heap.size 65 4 v bs.length (bh bs) :=
 av h.own (fun q hq=>setRow_other _ _ _ _ (fun e=>by
  have hz:=h.z
  rcases h.own.2 with ⟨e1,_⟩|⟨g1,cp',cu,e1,_,hh,_⟩
  ·rw[e1] at hq;cases hq
  ·rw[e1] at hq
   simp only[Value.ownBlock,Option.some.injEq] at hq;have e2:q=w.heap.size+1:=e;rw[hq,e2,hz] at hh
   cases hh))
theorem natF_ne {F:Fld} (hF:F.check=0):fF F≠[]:=by
 intro e;have h:=xZ F (F.lms.length-1);rw[←Af,e] at h;have:=(kX hF).2;simp at h;omega
theorem natB_few {F:Fld} {l:List Rcd} (h:cX F l) (k:Nat):(j9 F l k).length≤3000:=by
 have h1:=y8 h.fld
 have h2:((l.take k).flatMap (Rcd.bs F)).length≤(l.flatMap (Rcd.bs F)).length:=by
  have:l.flatMap (Rcd.bs F)=(l.take k).flatMap (Rcd.bs F)++(l.drop k).flatMap (Rcd.bs F):=by rw[←List.flatMap_append,List.take_append_drop]
  rw[this,List.length_append];omega
 unfold j9;rw[List.length_append]
 rcases h.bds with h3|h3
 ·unfold aj at h3
  rw[List.length_append] at h3;omega
 ·subst h3
  simp;omega
theorem right_in {r:Rcd} (h:r.right=true):bm r.id 0 1000000=true:=by
 have:=gU h
 unfold bm;simp;omega
theorem err_call0 {F:Fld} {r:Rcd} (h:r.err F=0):dP F r.call=0:=by
 unfold Rcd.err at h
 by_cases q:dP F r.call≠0
 ·rw[if_pos q] at h;exact absurd h q
 ·exact Classical.not_not.1 q
theorem rsystem_any (w:World) (x:FV) (F:Fld) (ar:Option Addr) (cr:Nat) (l:List Rcd) (hG:cX F l) (h:FldAt w x F) (hr:cI w ar l) (hk:∀r∈l,(0≤r.call.kind∧r.call.kind≤255)∧r.deed.size≤9223372036854775807) :
 Calls prog 93 #[x.val F,.slice ar l.length cr] w fun e w'=>(∃v,e=.returned (.agg #[.int .i64 (bj F),v])∧w'.ownsRow w.heap.size 65 4 v (aj F l).length (bh (aj F l)))∧Below w.heap.size w w':=by
 obtain⟨w0,hw0⟩:∃W,W=(w.alloc (.cells (x.arr F) 27)).alloc (.cells #[.int .i64 0,.slice none 0 0] 61):=⟨_,rfl⟩;have B0:=aa (show Below w.heap.size w w0 by rw[hw0];exact(aD).alloc (by simp) _)
 have X0:=aa (show Kb [(w.heap.size+1,.cells #[.int .i64 0,.slice none 0 0] 61),(w.heap.size,.cells (x.arr F) 27)] w0 by
  rw[hw0];have:=Kb.alloc (o:=.cells #[.int .i64 0,.slice none 0 0] 61) (Kb.alloc (W:=w) (o:=.cells (x.arr F) 27) (L:=[]) trivial)
  simpa using this)
 have hF:=hG.fld;have HP:=aa (fun W (hb:Below w.heap.size w W)=>rPoints_any W x F (h.below hb));have HN:=aa (fun W (hb:Below w.heap.size w W)=>rNature_any W x F (h.below hb));unfold jm at HN;rw[if_pos hF,AK] at HP;rw[hF,if_pos rfl] at HN
 have HB:=aa (fun W (hb:Below w.heap.size w W) k (hk9:k<l.length)=>(by
  have hm:l[k]∈l:=List.getElem_mem hk9;have he:=hG.each _ hm;have:=rBounds_any W x F l[k].call l[k].id (h.below hb) (hk _ hm).1;rw[bounds_err hF (err_call0 he.2) (right_in he.1)] at this
  exact this))
 have HNE:=aa (fun k (hk9:k<l.length)=>AE (F:=F) (c:=l[k].call) (r:=l[k].id) hF (err_call0 (hG.each _ (List.getElem_mem hk9)).2));have HLE:=aa (fun k (hk9:k<l.length)=>uv (F:=F) (c:=l[k].call) (r:=l[k].id) hF (err_call0 (hG.each _ (List.getElem_mem hk9)).2));have HRR:=aa (fun W (hb:Below w.heap.size w W)=>hr.below hb (Nat.le_refl _));have HFW:=aa (fun k=>natB_few hG k);have HNN:=aa (fun k (e:j9 F l k=[])=>natF_ne hF (List.append_eq_nil_iff.1 e).1);have hlen:=hG.few;obtain⟨P,hP⟩:∃P:Int,((bj F:Nat):Int)=P:=⟨_,rfl⟩;rw[hP] at HP ⊢;have HSY:=aa (zw F l);have kk:=ak X0.out.2.1
 unfold FV.val FV.arr at *
 clear h hr hk hG hF hP;go_enter func93,ntmps93;go_upto_region 1 with fail;rw[←hw0];clear hw0;go_wp2_with fail;refine(HP.out _ B0.out).mono ?_;rintro e w1 ⟨rfl,hb1⟩;have X1:=aa (X0.out.next hb1);have B1:=bU B0 hb1;have hsz:=aa (show w.heap.size+2≤w1.heap.size by have:=lt_of_block X1.out.1;omega);clear hb1 X0 B0 HP kk;have kk:=ak X1.out.2.1;go_upto_region 2 with fail;refine mj ?_;intro w2 hW2;obtain⟨g,hg⟩:=ag w1.heap.size
 have hb2:Below w1.heap.size w1 w2:=by rw[hW2];exact aD
 have XS:=aa (show w2.heap[g]?=some (.cells #[.int .i64 P,.slice none 0 0] 61 (0,0)) by rw[hW2,←hg];exact heap_alloc_new _ _);have J2:Hid (QS w x F P g (.slice none 0 0) [] w2):=aa ⟨World.ownsRow_nil _ _ _ _,bB B1.out hb2,ac hb2 (lt_of_block X1.out.2.1) X1.out.2.1,ac hb2 (lt_of_block X1.out.1) X1.out.1,XS.out⟩;have HG:=aa (show w.heap.size+2≤g by rw[←hg];exact hsz.out);rw[hg];clear hb2 hW2 hg hsz XS X1 B1 kk;have kk:=ak J2.out.k;unfold FV.arr at kk;go_wp2_with fail;refine(HN.out _ J2.out.b).mono ?_;rintro e w3 ⟨⟨v0,rfl,hv⟩,hb3⟩;obtain⟨o0,c0,rfl⟩:=vR hv;have J3:=J2.out.next hb3;have J4:=aa (QS.put J3 HG.out (hv.mono J2.out.b.size) J3.b (fun _ _ _ _ q _=>q));have ks:=ak J3.s;have fs:=cf (i:=1) J3.s;have HN0:=aa (lB F l);clear hv hb3 J3 J2 kk HN;go_upto_region 3 with fail;refine mj ?_;intro w4 hW4;rw[←hW4] at J4;clear hW4 ks fs;rw[←HN0.out] at J4;clear HN0;go_wp2_with fail
 go_loopw [6] (fun p wr=>∃(k:Nat) (v:Value),k≤l.length∧p=.int .i64 (k:Int)∧Hid (QS w x F P g v (j9 F l k) wr)) (fun p _=>l.length-(intOf p).toNat)
 case atStart=>exact⟨0,_,Nat.zero_le _,rfl,J4⟩
 case round =>
  obtain⟨k,v,hk,rfl,J⟩:=hrel;obtain⟨w5,rfl⟩:∃z:World,z=wr:=⟨wr,rfl⟩;clear J4
  by_cases hlt:k<l.length
  ·have HBK:=aa (fun W (hb:Below w.heap.size w W)=>HB.out W hb k hlt)
   have HNK:=aa (HNE.out k hlt);have HLK:=aa (HLE.out k hlt);have HSN:=aa (wX F l hlt);obtain⟨rb,ro,e1,hbl,hcc⟩:=RecsAt.at (HRR.out w5 J.out.b) hlt
   have HCI:=aa (fun V (hV:Below w5.heap.size w5 V)=>(by
    have z:=(hV.cell hbl).trans (hcc 0 (by omega));rw[Nat.add_zero] at z
    exact z.trans rfl:V.cell? ⟨rb,ro+k*18,none⟩=some (.int .i64 l[k].id)))
   have HCM:=aa (fun V (hV:Below w5.heap.size w5 V)=>call_mid18 (W:=V) (b:=rb) (off:=ro) (k:=k) (r:=l[k]) (fun j hj=>by rw[hV.cell hbl];exact hcc j hj));obtain⟨r,hr⟩:=ag (l[k]);rw[hr] at HBK HNK HLK HSN HCI HCM;subst e1
   have hk1:(k:Int)<(l.length:Int):=by omega
   have hk0:(0:Int)≤(k:Int):=by omega
   have HBS:=aa (show r.bs F=eo F r.call r.id from rfl);rw[HBS.out] at HSN;obtain⟨nb,hnb⟩:=ag (eo F r.call r.id);rw[hnb] at HBK HNK HLK HSN;have HRV:=aa (rfl:r.call.val=.agg r.call.vals);rw[HRV.out] at HBK;clear hr hcc hbl hnb HBS HRV;go_upto_region 6 with fail
   go_cut [7] (fun v2 wx=>Hid (wx.ownsRow w5.heap.size 65 4 v2 nb.length (bh nb))∧Hid (Below w5.heap.size w5 wx))
   case first =>
    refine aJ (S:=Below w5.heap.size w5) (last:=100) (by kernel_rfl) ?_;obtain⟨W0,hW0⟩:∃W,W=w5.drew:=⟨_,rfl⟩
    have hS0:Below w5.heap.size w5 W0:=by rw[hW0];exact(Below.refl _ _).drew
    rw[←hW0];clear hW0;refine tf 0 25 (.agg #[.slice x.aS F.sts.length x.cS,.slice x.aL F.lms.length x.cL,.slice x.aP F.prs.length x.cP,.slice x.aV F.vrs.length x.cV]) hS0 (fun V hV=>?_) ?_
    ·exact gp rfl rfl (J.out.next hV).k underlying27 rfl (by kernel_rfl)
    (try simp only[s3]);refine aR 1 26 (.slice (some ⟨rb,ro,none⟩) l.length cr) hS0 ?_;(try simp only[s3]);refine aR 2 27 (.int .i64 ((k:Int))) hS0 ?_;(try simp only[s3]);refine tf 3 28 (.pointer (some ⟨rb,ro+k*18,none⟩)) hS0 (fun V hV=>?_) ?_
    ·simp[go_sem,execOp,hk1,hk0]
    (try simp only[s3]);refine aR 4 29 (.pointer (some ⟨rb,ro+k*18+5,none⟩)) hS0 ?_;(try simp only[s3]);refine tf 5 30 (.agg r.call.vals) hS0 (fun V hV=>?_) ?_
    ·exact ymid rfl rfl (HCM.out V hV) underlying48 rfl (by kernel_rfl)
    (try simp only[s3]);refine aR 6 31 (.slice (some ⟨rb,ro,none⟩) l.length cr) hS0 ?_;(try simp only[s3]);refine aR 7 32 (.int .i64 ((k:Int))) hS0 ?_;(try simp only[s3]);refine tf 8 33 (.pointer (some ⟨rb,ro+k*18,none⟩)) hS0 (fun V hV=>?_) ?_
    ·simp[go_sem,execOp,hk1,hk0]
    (try simp only[s3]);refine aR 9 34 (.pointer (some ⟨rb,ro+k*18,none⟩)) hS0 ?_;(try simp only[s3]);refine tf 10 35 (.int .i64 r.id) hS0 (fun V hV=>?_) ?_
    ·(have z:=HCI.out V hV;simp[go_sem,execOp,z])
    (try simp only[s3]);refine ae 11 rfl (by kernel_rfl) (fun K hK=>?_);go_simp;go_at_call 92;refine(HBK.out _ (bB J.out.b hS0)).mono ?_;rintro e wq1 ⟨⟨v9,rfl,hv9⟩,hq1⟩;have hS1:Below w5.heap.size w5 wq1:=bB hS0 hq1;have HO9:=aa (hv9.mono hS0.size);clear hq1 hv9;go_wp2_with fail;refine hK.out _ _ (.inr hS1) ?_;clear hK K;(try simp only[Act.put,s3]);refine aR 12 24 (.tuple #[v9,.int .i64 0]) hS1 ?_;(try simp only[s3]);refine aR 13 37 (v9) hS1 ?_;(try simp only[s3]);refine aR 14 38 (.int .i64 0) hS1 ?_;(try simp only[s3]);refine aR 15 7 (v9) hS1 ?_;(try simp only[s3]);refine aR 16 8 (.int .i64 0) hS1 ?_;(try simp only[s3]);refine aw (by kernel_rfl) ?_ _;go_wp2_with fail;go_meet;exact⟨HO9,aa hS1⟩
   case rest =>
   obtain⟨HO2,HB2⟩:=hcut;obtain⟨v2,rfl⟩:∃z:Value,z=u7:=⟨u7,rfl⟩;obtain⟨w6,rfl⟩:∃z:World,z=wc:=⟨wc,rfl⟩;have J6:=J.out.next HB2.out;have hbA:Below w6.heap.size w6 (w6.alloc (.cells #[] 65)):=aD;have J7:=J6.next hbA;have own2:=HO2.out.alloc (.cells #[] 65);obtain⟨v3,w8,hrun1,ho8,hb8,hty8,hbk8⟩:=appendB3 (bs:=[]) (news:=j9 F l k) (empty_owns J6.b.size) J7.own (fun e=>HNN.out k e) (by simp) (by have:=HFW.out k;omega) J7.b.size 59
   have own28:=av own2 (fun q hq=>hbk8 q (jh own2 hq).1 (by
    have h9:=(jh HO2.out hq).1;simp only[Value.ownBlock,ne_eq,Option.some.injEq]
    omega))
   obtain⟨v4,w99Q,hrun2,ho9,hb9,hty9,-⟩:=appendB3 (bs:=j9 F l k) (news:=nb) ho8 own28 HNK.out (by have:=HFW.out k;omega) (by have:=HLK.out;omega) (J7.b.trans hb8).size 59;obtain⟨o4,c4,e4⟩:=vR ho9;obtain⟨n4,hn4⟩:=ag ((j9 F l k++nb).length);rw[hn4] at e4;subst e4;have J9:=QS.put J7 HG.out ho9 (J7.b.trans (hb8.trans hb9)) (fun q cs t f a ht=>hty9 q cs t f (hty8 q cs t f a ht) ht);rw[HSN.out] at J9;have ks:=ak J7.s;have ks9:=hty9 _ _ _ _ (hty8 _ _ _ _ J7.s (by decide)) (by decide);have kz:=ak ks9;have fz9Q:=cf (i:=1) ks9;have HJ9:=aa J9;have HRUN1:=aa hrun1;have HRUN2:=aa hrun2;clear J9 hn4 hrun1 hrun2 ho8 ho9 hb8 hb9 hty8 hty9 hbk8 own2 own28 J6 J7 hbA ks9 HO2 HB2 J;go_wp2_with (at_builtin;first|(refine aN rfl (s:=.tmp 39) (x:=.tmp 41) (t:=59) rfl rfl rfl HRUN1.out ?_)|(refine aN rfl (s:=.tmp 42) (x:=.tmp 43) (t:=59) rfl rfl rfl HRUN2.out ?_));go_roundw
   case rel=>exact⟨k+1,_,by omega,by go_num,HJ9⟩
   case measure=>simp[intOf];omega
  ·obtain rfl:k=l.length:=by omega
   have JH:=J.out;rw[HSY.out] at JH;obtain⟨o,c,rfl⟩:=vR JH.own;have HJH:=aa JH;clear JH J;go_upto_region 8 with fail;refine wp_region_list ?_;refine ah rfl 61 _ rfl _ rfl g rfl 61 _ (0,0) _ HJH.out.s underlying61 rfl (by kernel_rfl) ?_;refine wpList_store_row rfl 61 _ _ rfl (w.heap.size+1) #[.int .i64 P,.slice o (aj F l).length c] rfl rfl 61 _ HJH.out.z (by kernel_rfl) rfl (by simp[Value.oneCell']) ?_;go_wp2_with fail;exact bodyPost_ret (cv results93 _ _ (w.heap.size+1) 61 _ (0,0) _ rfl (setRow_heap _ _ _ _ _ _ HJH.out.z) underlying61 rfl (by kernel_rfl)) rfl ⟨⟨_,rfl,HJH.out.fin _⟩,below_setRow HJH.out.b (by omega) _⟩
theorem rec_step {F:Fld} {r:Rcd} {last:Int} {k many:Nat} {Z:Int×Int}:(if r.right=false∨r.id≤last then((k:Int),(1:Int)) else if r.err F≠0 then((k:Int),r.err F) else if 2000<many then((k:Int),2) else Z)=if recR F r last≠0 then((k:Int),recR F r last) else if 2000<many then((k:Int),2) else Z:=by
 unfold recR
 by_cases h1:r.right=false∨r.id≤last
 ·rw[if_pos h1,if_pos h1,if_pos (by simp)]
 ·rw[if_neg h1,if_neg h1]
theorem rec_zero {F:Fld} {r:Rcd} {last:Int} (h:recR F r last=0):r.right=true∧r.err F=0:=by
 unfold recR at h
 by_cases h1:r.right=false∨r.id≤last
 ·rw[if_pos h1] at h;cases h
 ·rw[if_neg h1] at h
  refine⟨?_,h⟩;cases q:r.right
  ·exact absurd (.inl q) h1
  ·rfl
theorem rCheck_any (w:World) (x:FV) (F:Fld) (ar:Option Addr) (cr:Nat) (l:List Rcd) (h:FldAt w x F) (hr:cI w ar l) (hn:l.length≤100000) (hk:∀r∈l,(0≤r.call.kind∧r.call.kind≤255)∧r.deed.size≤9223372036854775807) :
 Calls prog 32 #[x.val F,.slice ar l.length cr] w fun e w'=>e=.returned (.tuple #[.int .i64 (cm F l).1,.int .i64 (cm F l).2])∧Below w.heap.size w w':=by
 obtain⟨⟨R1,R2⟩,hR⟩:=ag (cm F l);rw[hR];unfold cm at hR;obtain⟨w0,hw0⟩:∃W,W=w.alloc (.cells (x.arr F) 27):=⟨_,rfl⟩;have B0:=aa (show Below w.heap.size w w0 by rw[hw0];exact aD);have X0:=aa (show Kb [(w.heap.size,.cells (x.arr F) 27)] w0 by rw[hw0];exact Kb.alloc trivial);have HCF:=aa (fun W (hb:Below w.heap.size w W)=>refCheckField_any W x F (h.below hb));have HNT:=aa (fun W (hb:Below w.heap.size w W)=>rNature_any W x F (h.below hb));have HLZ:=aa (show F.check=0→jm F=fF F from fun q=>by unfold jm;rw[if_pos q]);have HRR:=aa (fun W (hb:Below w.heap.size w W)=>hr.below hb (Nat.le_refl _));have HCK:=aa (fun(q:F.check=0) W (hb:Below w.heap.size w W) k (hk9:k<l.length) last=>checkRecord_any W x F l[k] last q (h.below hb) (hk _ (List.getElem_mem hk9)).1 (hk _ (List.getElem_mem hk9)).2)
 have HBD:=aa (fun(q:F.check=0) W (hb:Below w.heap.size w W) k (hk9:k<l.length) last (q2:recR F l[k] last=0)=>(by
  have:=rBounds_any W x F l[k].call l[k].id (h.below hb) (hk _ (List.getElem_mem hk9)).1;have z:=rec_zero q2;rw[bounds_err q (err_call0 z.2) (right_in z.1)] at this
  exact this))
 have HLB:=aa (fun(q:F.check=0) k (hk9:k<l.length) last (q2:recR F l[k] last=0)=>uv (F:=F) (c:=l[k].call) (r:=l[k].id) q (err_call0 (rec_zero q2).2));have HFW:=aa (fun(q:F.check=0)=>y8 q);obtain⟨z,hz⟩:=ag F.check;rw[hz] at HCF HNT HLZ HCK HBD hR HFW HLB;obtain⟨NL,hNL⟩:=ag (jm F);rw[hNL] at HNT HLZ;have HNN:=aa hn;clear hz hNL hk hr h hn;have kk:=ak X0.out.1
 unfold FV.val FV.arr at *
 go_enter func32,ntmps32;go_upto_region 1 with fail;rw[←hw0];clear hw0;go_wp2_with fail;refine(HCF.out _ B0.out).mono ?_;rintro e w1 ⟨rfl,hb1⟩;have X1:=aa (X0.out.next hb1);have B1:=bU B0 hb1;clear hb1 X0 B0 HCF kk
 by_cases h0:z=0
 rotate_left
 ·rw[if_pos h0] at hR
  have hzb:(z != 0)=true:=by simpa using h0
  cases hR;clear h0;go_wp2_with fail;go_ret2;exact⟨rfl,B1.out⟩
 subst h0;rw[if_neg (by simp)] at hR;have hL:=HLZ.out rfl;subst hL;have HR:=aa hR;have HCK2:=aa (HCK.out rfl);have HBD2:=aa (HBD.out rfl);have HLB2:=aa (HLB.out rfl);have HFW2:=aa (HFW.out rfl);have kk:=ak X1.out.1;clear hR HLZ HCK HBD HFW HLB;go_wp2_with fail;refine(HNT.out _ B1.out).mono ?_;rintro e w2 ⟨⟨v0,rfl,hv⟩,hb2⟩;obtain⟨o0,c0,rfl⟩:=vR hv;have X2:=aa (X1.out.next hb2);have B2:=bU B1 hb2;clear hv hb2 X1 B1 HNT kk;have HNZ:=aa (lB F l);obtain⟨n0,hn0⟩:=ag ((fF F).length);have HN0:=aa hn0;rw[hn0];clear hn0
 have hn02:n0≤2000:=by have:=HFW2.out;have:=HN0.out;omega
 go_wp2_with fail
 go_loopw [9,10,11] (fun m la p wr=>∃(k many:Nat) (last:Int),k≤l.length∧p=.int .i64 (k:Int)∧la=.int .i64 last∧m=.int .i64 (many:Int)∧many≤2000∧Hid (last=fS l k)∧Hid (many=(j9 F l k).length)∧Hid (fH F (l.drop k) k last many=(R1,R2))∧Hid (Below w2.heap.size w2 wr)) (fun _ _ p _=>l.length-(intOf p).toNat)
 case atStart=>exact⟨0,n0,0,Nat.zero_le _,rfl,rfl,rfl,hn02,aa rfl,aa (by rw[HNZ.out];exact HN0.out.symm),aa (by rw[←HN0.out];exact HR.out),aa (Below.refl _ _)⟩
 case round =>
  obtain⟨k,many,last,hk,rfl,rfl,rfl,hm,HLA,HMA,HG,HB⟩:=hrel;obtain⟨w3,rfl⟩:∃z:World,z=wr:=⟨wr,rfl⟩;have B3:=bU B2 HB.out;have X3:=aa (X2.out.next HB.out);clear HR HN0 hn02
  by_cases hlt:k<l.length
  rotate_left
  ·obtain rfl:k=l.length:=by omega
   have hG:=HG.out;rw[List.drop_length] at hG;cases hG;go_wp2_with fail;go_ret2;exact⟨rfl,B3.out⟩
  have hG:=HG.out;rw[Ab F l hlt,rec_step] at hG;have HTK:=aa (wX F l hlt);have HLI:=aa (mM l hlt);have HCR:=aa (fun W (hb:Below w.heap.size w W)=>HCK2.out W hb k hlt last);have HBR:=aa (fun W (hb:Below w.heap.size w W) q2=>HBD2.out W hb k hlt last q2);have HLR:=aa (fun q2=>HLB2.out k hlt last q2);obtain⟨rb,ro,e1,hbl,hcc⟩:=RecsAt.at (HRR.out w3 B3.out) hlt;have HCA:=aa (fun V (hV:Below w3.heap.size w3 V)=>jw (W:=V) (b:=rb) (off:=ro) (k:=k) (r:=l[k]) (fun j hj=>by rw[hV.cell hbl];exact hcc j hj))
  have HCI:=aa (fun V (hV:Below w3.heap.size w3 V)=>(by
   have z:=(hV.cell hbl).trans (hcc 0 (by omega));rw[Nat.add_zero] at z
   exact z.trans rfl:V.cell? ⟨rb,ro+k*18,none⟩=some (.int .i64 l[k].id)))
  have HCM:=aa (fun V (hV:Below w3.heap.size w3 V)=>call_mid18 (W:=V) (b:=rb) (off:=ro) (k:=k) (r:=l[k]) (fun j hj=>by rw[hV.cell hbl];exact hcc j hj));obtain⟨r,hr⟩:=ag (l[k]);rw[hr] at HTK HLI hG HCR HBR HLR HCA HCI HCM;subst e1
  have hk1:(k:Int)<(l.length:Int):=by omega
  have hk0:(0:Int)≤(k:Int):=by omega
  have HTL:=aa (show(j9 F l (k+1)).length=(j9 F l k).length+(eo F r.call r.id).length by rw[←HTK.out,List.length_append];rfl);have hbs:r.bs F=eo F r.call r.id:=rfl;rw[hbs] at hG;obtain⟨nb,hnb⟩:=ag (eo F r.call r.id);rw[hnb] at HBR HTL hG HLR;have HRV:=aa (rfl:r.call.val=.agg r.call.vals);rw[HRV.out] at HBR;obtain⟨er,her⟩:=ag (recR F r last);rw[her] at HCR HBR hG HLR;have HG2:=aa hG;have HB9:=aa HB.out;clear hr hcc hbl hnb HRV her hG HG HB HCK2 HBD2 HLB2 hbs X2 HTK
  by_cases g0:300≤k
  ·have hG:=HG2.out
   rw[if_pos g0] at hG;cases hG
   have g0b:(300:Int)≤(k:Int):=by omega
   clear g0;go_wp2_with fail;go_ret2;exact⟨rfl,B3.out⟩
  have hG:=HG2.out;rw[if_neg g0] at hG;have HG3:=aa hG
  have g0b:(k:Int)<300:=by omega
  clear HG2 hG g0;have kk:=ak X3.out.1;go_upto_region 12 with fail
  go_cut [6] (fun t wx=>t=.int .i64 er∧Hid (Below w3.heap.size w3 wx))
  case first =>
   refine aJ (S:=Below w3.heap.size w3) (last:=100) (by kernel_rfl) ?_;obtain⟨W0,hW0⟩:∃W,W=w3.drew:=⟨_,rfl⟩
   have hS0:Below w3.heap.size w3 W0:=by rw[hW0];exact(Below.refl _ _).drew
   rw[←hW0];clear hW0;refine tf 0 35 (.agg #[.slice x.aS F.sts.length x.cS,.slice x.aL F.lms.length x.cL,.slice x.aP F.prs.length x.cP,.slice x.aV F.vrs.length x.cV]) hS0 (fun V hV=>?_) ?_
   ·exact gp rfl rfl (X3.out.next hV).1 underlying27 rfl (by kernel_rfl)
   (try simp only[s3]);refine aR 1 36 (.slice (some ⟨rb,ro,none⟩) l.length cr) hS0 ?_;(try simp only[s3]);refine aR 2 37 (.int .i64 ((k:Int))) hS0 ?_;(try simp only[s3]);refine tf 3 38 (.pointer (some ⟨rb,ro+k*18,none⟩)) hS0 (fun V hV=>?_) ?_
   ·simp[go_sem,execOp,hk1,hk0]
   (try simp only[s3]);refine tf 4 39 (.agg r.vals) hS0 (fun V hV=>?_) ?_
   ·exact ymid rfl rfl (HCA.out V hV) underlying50 rfl (by kernel_rfl)
   (try simp only[s3]);refine aR 5 40 (.int .i64 last) hS0 ?_;(try simp only[s3]);refine ae 6 rfl (by kernel_rfl) (fun K hK=>?_);go_simp;go_at_call 91;refine(HCR.out _ (bB B3.out hS0)).mono ?_;rintro e wq1 ⟨rfl,hq1⟩;have hS1:Below w3.heap.size w3 wq1:=bB hS0 hq1;clear hq1;go_wp2_with fail;refine hK.out _ _ (.inr hS1) ?_;clear hK K;(try simp only[Act.put,s3]);refine aR 7 6 (.int .i64 er) hS1 ?_;(try simp only[s3]);refine aw (by kernel_rfl) ?_ _;go_wp2_with fail;go_meet;exact⟨rfl,aa hS1⟩
  case rest =>
  obtain⟨rfl,HB4⟩:=hcut;obtain⟨w4,rfl⟩:∃z:World,z=wc:=⟨wc,rfl⟩;have B4:=bU B3 HB4.out;have X4:=aa (X3.out.next HB4.out);clear kk X3
  by_cases e0:er=0
  rotate_left
  ·have hG:=HG3.out
   have hzb:(er != 0)=true:=by simpa using e0
   rw[if_pos e0] at hG;cases hG;clear e0 HBR HLR;go_wp2_with fail;go_ret2;exact⟨rfl,B4.out⟩
  subst e0;have hG:=HG3.out;rw[if_neg (by simp)] at hG;have HG4:=aa hG;have HBR2:=aa (fun W hb=>HBR.out W hb rfl);have hnl:=HLR.out rfl;clear HG3 hG HBR HLR;have kk:=ak X4.out.1;go_upto_region 15 with fail
  go_cut [12] (fun t wx=>∃o c,t=.slice o nb.length c∧Hid (Below w4.heap.size w4 wx))
  case first =>
   refine aJ (S:=Below w4.heap.size w4) (last:=100) (by kernel_rfl) ?_;obtain⟨W0,hW0⟩:∃W,W=w4.drew:=⟨_,rfl⟩
   have hS0:Below w4.heap.size w4 W0:=by rw[hW0];exact(Below.refl _ _).drew
   rw[←hW0];clear hW0;refine tf 0 47 (.agg #[.slice x.aS F.sts.length x.cS,.slice x.aL F.lms.length x.cL,.slice x.aP F.prs.length x.cP,.slice x.aV F.vrs.length x.cV]) hS0 (fun V hV=>?_) ?_
   ·exact gp rfl rfl (X4.out.next hV).1 underlying27 rfl (by kernel_rfl)
   (try simp only[s3]);refine aR 1 48 (.slice (some ⟨rb,ro,none⟩) l.length cr) hS0 ?_;(try simp only[s3]);refine aR 2 49 (.int .i64 ((k:Int))) hS0 ?_;(try simp only[s3]);refine tf 3 50 (.pointer (some ⟨rb,ro+k*18,none⟩)) hS0 (fun V hV=>?_) ?_
   ·simp[go_sem,execOp,hk1,hk0]
   (try simp only[s3]);refine aR 4 51 (.pointer (some ⟨rb,ro+k*18+5,none⟩)) hS0 ?_;(try simp only[s3]);refine tf 5 52 (.agg r.call.vals) hS0 (fun V hV=>?_) ?_
   ·exact ymid rfl rfl (HCM.out V (bB HB4.out hV)) underlying48 rfl (by kernel_rfl)
   (try simp only[s3]);refine aR 6 53 (.slice (some ⟨rb,ro,none⟩) l.length cr) hS0 ?_;(try simp only[s3]);refine aR 7 54 (.int .i64 ((k:Int))) hS0 ?_;(try simp only[s3]);refine tf 8 55 (.pointer (some ⟨rb,ro+k*18,none⟩)) hS0 (fun V hV=>?_) ?_
   ·simp[go_sem,execOp,hk1,hk0]
   (try simp only[s3]);refine aR 9 56 (.pointer (some ⟨rb,ro+k*18,none⟩)) hS0 ?_;(try simp only[s3]);refine tf 10 57 (.int .i64 r.id) hS0 (fun V hV=>?_) ?_
   ·(have z:=HCI.out V (bB HB4.out hV);simp[go_sem,execOp,z])
   (try simp only[s3]);refine ae 11 rfl (by kernel_rfl) (fun K hK=>?_);go_simp;go_at_call 92;refine(HBR2.out _ (bB B4.out hS0)).mono ?_;rintro e wq1 ⟨⟨v9,rfl,hv9⟩,hq1⟩;obtain⟨o99Q,c9,rfl⟩:=vR hv9;have hS1:Below w4.heap.size w4 wq1:=bB hS0 hq1;clear hq1 hv9;go_wp2_with fail;refine hK.out _ _ (.inr hS1) ?_;clear hK K;(try simp only[Act.put,s3]);refine aR 12 46 (.tuple #[.slice o99Q nb.length c9,.int .i64 0]) hS1 ?_;(try simp only[s3]);refine aR 13 59 (.slice o99Q nb.length c9) hS1 ?_;(try simp only[s3]);refine aR 14 60 (.int .i64 0) hS1 ?_;(try simp only[s3]);refine aR 15 12 (.slice o99Q nb.length c9) hS1 ?_;(try simp only[s3]);refine aR 16 13 (.int .i64 0) hS1 ?_;(try simp only[s3]);refine aw (by kernel_rfl) ?_ _;go_wp2_with fail;go_meet;exact⟨_,_,rfl,aa hS1⟩
  case rest =>
  obtain⟨o99Q,c9,rfl,HB5⟩:=hcut;obtain⟨w5,rfl⟩:∃z:World,z=wc:=⟨wc,rfl⟩;have B5:=bU B4 HB5.out;have HB35:=bU HB4 HB5.out;have HB25:=aa (show Below w2.heap.size w2 w5 from bB HB9.out HB35.out);have hci:=HCI.out w5 HB35.out;obtain⟨m,hm9⟩:=ag nb.length;rw[hm9] at hnl HG4 HTL ⊢;clear kk X4 HBR2 hm9 HB4 HB5
  by_cases g1:2000<many+m
  ·have hG:=HG4.out
   rw[if_pos g1] at hG;cases hG
   have g1b:(2000:Int)<(many:Int)+(m:Int):=by omega
   clear g1;go_wp2_with fail;go_ret2;exact⟨rfl,B5.out⟩
  have hG:=HG4.out;rw[if_neg g1] at hG;have HG5:=aa hG
  have g1b:(many:Int)+(m:Int)≤2000:=by omega
  clear HG4 hG g1;go_wp2_with fail;go_roundw
  case rel=>exact⟨k+1,many+m,r.id,by omega,by go_num,rfl,by go_num,by omega,aa HLI.out.symm,aa (by rw[HTL.out,←HMA.out]),HG5,HB25⟩
  case measure=>simp[intOf];omega
theorem rSystem_any (w:World) (x:FV) (F:Fld) (ar:Option Addr) (cr:Nat) (l:List Rcd) (h:FldAt w x F) (hr:cI w ar l) (hn:l.length≤100000) (hk:∀r∈l,(0≤r.call.kind∧r.call.kind≤255)∧r.deed.size≤9223372036854775807) :
 Calls prog 34 #[x.val F,.slice ar l.length cr] w fun e w'=>SystPost w F l (cm F l).2 e w'∧Below w.heap.size w w':=by
 obtain⟨w0,hw0⟩:∃W,W=(w.alloc (.cells (x.arr F) 27)).alloc (.cells #[.int .i64 0,.slice none 0 0] 61):=⟨_,rfl⟩;have B0:=aa (show Below w.heap.size w w0 by rw[hw0];exact(aD).alloc (by simp) _)
 have X0:=aa (show Kb [(w.heap.size+1,.cells #[.int .i64 0,.slice none 0 0] 61),(w.heap.size,.cells (x.arr F) 27)] w0 by
  rw[hw0];have:=Kb.alloc (o:=.cells #[.int .i64 0,.slice none 0 0] 61) (Kb.alloc (W:=w) (o:=.cells (x.arr F) 27) (L:=[]) trivial)
  simpa using this)
 have HSZ:=aa (show w0.heap.size=w.heap.size+2 by rw[hw0];simp);have HC:=aa (rCheck_any w0 x F ar cr l (h.below B0.out) (hr.below B0.out (Nat.le_refl _)) hn hk);have HY:=aa (fun(q:(cm F l).2=0) W (hb:Below w0.heap.size w0 W)=>rsystem_any W x F ar cr l ((fM F l).1 q) ((h.below B0.out).below hb) ((hr.below B0.out (Nat.le_refl _)).below hb (Nat.le_refl _)) hk);obtain⟨⟨r1,r2⟩,hR⟩:=ag (cm F l);rw[hR] at HC HY ⊢;clear hR h hr hn hk;have kk:=ak X0.out.2.1
 unfold FV.val FV.arr at *
 go_enter func34,ntmps34;go_upto_region 1 with fail;rw[←hw0];clear hw0;go_wp2_with fail;refine HC.out.mono ?_;rintro e w1 ⟨rfl,hb1⟩;have HB1:=aa hb1;have B1:=bU B0 hb1;have X1:=aa (X0.out.next hb1);clear hb1 HC X0 kk;have ks:=ak X1.out.1;have kk:=ak X1.out.2.1;have hfz:w1.frozen? ⟨w.heap.size+1,0,none⟩=false:=frozen_of_row _ _ _ _ _ X1.out.1
 by_cases h0:r2=0
 rotate_left
 ·have hzb:(r2 != 0)=true:=by simpa using h0
  have H0:=aa h0;clear h0 HY;go_wp2_with (first|(refine wpList_store_row rfl 61 _ _ rfl (w.heap.size+1) #[.int .i64 0,.slice none 0 0] rfl rfl 61 _ X1.out.1 (by kernel_rfl) rfl (by simp[Value.oneCell']) ?_));refine bodyPost_ret (results_cell_two results34 _ _ (w.heap.size+1) 61 #[.int .i64 0,.slice none 0 0] (0,0) _ rfl (setRow_heap _ _ _ _ _ _ X1.out.1) underlying61 rfl (by kernel_rfl)) rfl ⟨?_,below_setRow B1.out (by omega) _⟩;unfold SystPost;rw[if_neg H0.out]
  rfl
 subst h0;have HY1:=aa (HY.out rfl w1 HB1.out);obtain⟨P,hP⟩:∃P:Int,((bj F:Nat):Int)=P:=⟨_,rfl⟩;have HPE:=aa hP;rw[hP] at HY1;clear hP HY ks hfz;go_wp2_with fail;refine HY1.out.mono ?_;rintro e w2 ⟨⟨v,rfl,ho⟩,hb2⟩;have X2:=aa (X1.out.next hb2);have B2:=bU B1 hb2;have HO:=aa ho;have HSZ1:=aa (show w.heap.size+2≤w1.heap.size by have:=HB1.out.size;have:=HSZ.out;omega);obtain⟨o,c,rfl,-⟩:=zx ho;clear hb2 ho X1 B1 kk HY1;have ks:=ak X2.out.1;have hfz:w2.frozen? ⟨w.heap.size+1,0,none⟩=false:=frozen_of_row _ _ _ _ _ X2.out.1;obtain⟨LN,hLN⟩:=ag ((aj F l).length);have HLN:=aa hLN;rw[hLN];clear hLN;go_wp2_with (first|(refine wpList_store_row rfl 61 _ _ rfl (w.heap.size+1) #[.int .i64 P,.slice o LN c] rfl rfl 61 _ X2.out.1 (by kernel_rfl) rfl (by simp[Value.oneCell']) ?_));refine bodyPost_ret (results_cell_two results34 _ _ (w.heap.size+1) 61 #[.int .i64 P,.slice o LN c] (0,0) _ rfl (setRow_heap _ _ _ _ _ _ X2.out.1) underlying61 rfl (by kernel_rfl)) rfl ⟨?_,below_setRow B2.out (by omega) _⟩;unfold SystPost;rw[if_pos rfl,HPE.out];have q:=av (W':=w2.setRow (w.heap.size+1) #[.int .i64 P,.slice o LN c]) HO.out (fun g hg=>setRow_other _ _ _ _ (by have:=(jh HO.out hg).2.1;have:=HSZ1.out;omega));have q2:=q.mono (show w.heap.size≤w1.heap.size by have:=HSZ1.out;omega);rw[HLN.out] at q2 ⊢;exact⟨o,c,rfl,q2⟩
def sysN (F:Fld) (er:Int):Int:=if er=0 then(bj F:Int) else 0
def sysO (F:Fld) (l:List Rcd) (er:Int):List Bd:=if er=0 then aj F l else[]
theorem syst_out {w w':World} {F:Fld} {l:List Rcd} {er:Int} {e:Ending} (h:SystPost w F l er e w'):∃o c,e=.returned (.tuple #[.agg #[.int .i64 (sysN F er),.slice o (sysO F l er).length c],.int .i64 er])∧BoundsAt w' o (sysO F l er):=by
 unfold SystPost at h;unfold sysN sysO
 by_cases q:er=0
 ·rw[if_pos q] at h
  obtain⟨o,c,e1,ho⟩:=h;obtain⟨o2,c2,e2,hB,-⟩:=zx ho;cases e2;rw[if_pos q,if_pos q];exact⟨o,c,by rw[e1,q],hB⟩
 ·rw[if_neg q] at h
  rw[if_neg q,if_neg q];exact⟨none,0,h,.inl rfl⟩
theorem sysO_len {F:Fld} {l:List Rcd}:(sysO F l (cm F l).2).length≤2000:=by
 unfold sysO
 by_cases q:(cm F l).2=0
 ·rw[if_pos q];exact Aa ((fM F l).1 q)
 ·rw[if_neg q];simp
theorem bd_range {w:World} {b o:Nat} {x:Bd} (h:x.cellsAt w b o):w.rangeAt b o [.int .i64 x.src,.int .i64 x.dst,.int .i64 x.most,.int .i64 x.rcd]:=by
 obtain⟨h0,h1,h2,h3⟩:=h;intro j v hv
 rcases j with _|_|_|_|j
 ·cases hv;exact h0
 ·cases hv;exact h1
 ·cases hv;exact h2
 ·cases hv;exact h3
 ·simp at hv
theorem ht65:Tryz.prog.underlying 65=some (.struct (Tryz.prog.fieldsOf 65)):=by kernel_rfl
theorem sh65:Tryz.prog.stoodInHeld 65=false:=by kernel_rfl
theorem guard65 (op:BinOp) (x y:Operand) (xs ys:Array Value) (w:World):(eqGuard op 65 x y (.agg xs) (.agg ys)).run prog w=.ok () w:=run_eqGuard_agg w op 65 x y xs ys (by kernel_rfl)
theorem neq65 (a b c d:Int) (w:World):(binOp .neq 65 (.agg #[.int .i64 a,.int .i64 b,.int .i64 c,.int .i64 d]) (.agg #[.int .i64 a,.int .i64 b,.int .i64 c,.int .i64 d])).run prog w=.ok (.bool false) w:=by
 rw[run_neq_struct,run_equalIn_agg w 9999 65 _ _ ht65 sh65];simp[Program.fieldsOf,underlying65,Op.eqFields,go_sem,part]
theorem limitsChecks_any (w:World) (x:FV) (F:Fld) (ar:Option Addr) (cr:Nat) (l:List Rcd) (h:FldAt w x F) (hr:cI w ar l) (hn:l.length≤9223372036854775807) (hd:∀r∈l,r.deed.size≤9223372036854775807) (hk:∀r∈l,0≤r.call.kind∧r.call.kind≤255) :
 Calls prog 6 #[x.val F,.slice ar l.length cr] w fun e w'=>e=.returned (.bool true)∧Below w.heap.size w w':=by
 obtain⟨w0,hw0⟩:∃W,W=w.alloc (.cells (x.arr F) 27):=⟨_,rfl⟩;have B0:=aa (show Below w.heap.size w w0 by rw[hw0];exact aD);have X0:=aa (show w0.heap[w.heap.size]?=some (.cells (x.arr F) 27 (0,0)) by rw[hw0];exact heap_alloc_new _ _);have HF:=aa (fun W (hb:Below w0.heap.size w0 W)=>(h.below B0.out).below hb);have HRR:=aa (fun W (hb:Below w0.heap.size w0 W)=>(hr.below B0.out (Nat.le_refl _)).below hb (Nat.le_refl _));have HSH:=aa (uy w0 x F (h.below B0.out));have HSV:=aa (fun W=>Av W);have HDD:=aa hd;have HN:=aa hn;have HK:=aa (fun(q:l.length≤320)=>(show l.length≤100000∧∀r∈l,(0≤r.call.kind∧r.call.kind≤255)∧r.deed.size≤9223372036854775807 from⟨by omega,fun r hr=>⟨hk r hr,hd r hr⟩⟩));obtain⟨sb,hsb⟩:=ag (oq F);rw[hsb] at HSH;have kk:=ak X0.out;unfold FV.arr at kk;unfold FV.val FV.arr at HSH;clear h hr hn hsb hd hk;go_enter func6,ntmps6;go_upto_region 1 with fail
 try unfold FV.val FV.arr
 rw[show w.alloc (.cells #[.slice x.aS F.sts.length x.cS,.slice x.aL F.lms.length x.cL,.slice x.aP F.prs.length x.cP,.slice x.aV F.vrs.length x.cV] 27)=w0 from hw0.symm];clear hw0;go_wp2_with fail;refine HSH.out.mono ?_;rintro e w1 ⟨rfl,hb1⟩;have BB1:=aa hb1;clear hb1 HSH kk;have hn9:=HN.out;cases sb
 ·go_wp2_with fail
  refine(HSV.out _).mono ?_;rintro e wz9Q ⟨rfl,hbz⟩;have BZ9Q:=aa (B0.out.trans ((bB BB1.out hbz).mono B0.out.size));clear hbz;go_wp2_with fail;go_ret;exact⟨rfl,BZ9Q.out⟩
 by_cases h1:l.length≤320
 rotate_left
 ·have d:decide (320<(l.length:Int))=true:=by simp;omega
  go_wp2_with fail;refine(HSV.out _).mono ?_;rintro e wz9Q ⟨rfl,hbz⟩;have BZ9Q:=aa (B0.out.trans ((bB BB1.out hbz).mono B0.out.size));clear hbz;go_wp2_with fail;go_ret;exact⟨rfl,BZ9Q.out⟩
 have d:decide (320<(l.length:Int))=false:=by simp;omega
 obtain⟨hn5,hk5⟩:=HK.out h1;have HCK:=aa (fun W (hb:Below w0.heap.size w0 W)=>checkR_any W x F ar cr l (HF.out W hb) (HRR.out W hb) hn5 hk5);have HRC:=aa (fun W (hb:Below w0.heap.size w0 W)=>rCheck_any W x F ar cr l (HF.out W hb) (HRR.out W hb) hn5 hk5);have HSY:=aa (fun W (hb:Below w0.heap.size w0 W)=>(system_any W x F ar cr l (HF.out W hb) (HRR.out W hb) hn5 hk5).mono fun e w' q=>And.intro (syst_out q.1) q.2);have HRS:=aa (fun W (hb:Below w0.heap.size w0 W)=>(rSystem_any W x F ar cr l (HF.out W hb) (HRR.out W hb) hn5 hk5).mono fun e w' q=>And.intro (syst_out q.1) q.2);have HLB:=aa (sysO_len (F:=F) (l:=l));obtain⟨⟨R1,R2⟩,hR⟩:=ag (cm F l);rw[hR] at HCK HRC HSY HRS HLB;dsimp only at HCK HRC HSY HRS HLB;obtain⟨N,hN⟩:=ag (sysN F R2);obtain⟨BS9Q,hBS⟩:=ag (sysO F l R2);rw[hN,hBS] at HSY HRS;rw[hBS] at HLB;obtain⟨LB,hLB⟩:=ag BS9Q.length;have HLE:=aa hLB;rw[hLB] at HSY HRS HLB;have HL9:=aa h1;unfold FV.val FV.arr at HCK HRC HSY HRS;clear hn5 hk5 HK HF hR hN hBS hLB h1;go_wp2_with fail;clear d hn9
 go_loopw [5] (fun i wr=>∃k:Nat,k≤l.length∧i=.int .i64 k∧Hid (Below w0.heap.size w0 wr)) (fun i _=>l.length-(intOf i).toNat)
 case atStart=>exact⟨0,Nat.zero_le _,rfl,BB1⟩
 case round =>
  obtain⟨k,hk,rfl,HB⟩:=hrel;have hl9:=HL9.out;obtain⟨w2,rfl⟩:∃z:World,z=wr:=⟨wr,rfl⟩
  by_cases hlt:k<l.length
  ·obtain⟨rb,ro,rfl,hbl,hcc⟩:=RecsAt.at (HRR.out _ HB.out) hlt
   obtain⟨s,hs⟩:=ag (l[k]);rw[hs] at hcc;have hz:w2.cell? ⟨rb,ro+k*18+2,none⟩=some (.string s.deed):=(hcc 2 (by decide)).trans rfl
   have q0:(0:Int)≤(k:Int):=by omega
   have q1:(k:Int)<(l.length:Int):=by omega
   have hsz:s.deed.size≤9223372036854775807:=by rw[←hs];exact HDD.out _ (List.getElem_mem hlt)
   clear hs hcc HCK HRC HSY HRS
   by_cases hq:s.deed.size≤100
   ·have dq:decide (100<(s.deed.size:Int))=false:=by simp;omega
    go_wp2_with fail;go_roundw
    case rel=>exact⟨k+1,by omega,by go_num,HB⟩
    case measure=>simp[intOf];omega
   ·have dq:decide (100<(s.deed.size:Int))=true:=by simp;omega
    go_wp2_with fail;refine(HSV.out _).mono ?_;rintro e wz9Q ⟨rfl,hbz⟩;have BZ9Q:=aa (B0.out.trans ((bB HB.out hbz).mono B0.out.size));clear hbz;go_wp2_with fail;go_ret;exact⟨rfl,BZ9Q.out⟩
  obtain rfl:k=l.length:=by omega
  clear hlt hk hl9;have X2:=aa (ac HB.out (lt_of_block X0.out) X0.out);have k0:=ak X2.out;unfold FV.arr at k0;go_wp2_with fail;refine(HCK.out _ HB.out).mono ?_;rintro e w3 ⟨rfl,hb3⟩;have B3:=bU HB hb3;have X3:=aa (ac hb3 (lt_of_block X2.out) X2.out);clear hb3 k0 X2 HB HCK;have k0:=ak X3.out;unfold FV.arr at k0;go_wp2_with fail;refine(HRC.out _ B3.out).mono ?_;rintro e w4 ⟨rfl,hb4⟩;have B4:=bU B3 hb4;have X4:=aa (ac hb4 (lt_of_block X3.out) X3.out);clear hb4 k0 X3 B3 HRC;have k0:=ak X4.out;unfold FV.arr at k0;go_wp2_with fail;refine(HSY.out _ B4.out).mono ?_;rintro e w5 ⟨⟨o,c,rfl,hB⟩,hb5⟩;have B5:=bU B4 hb5;have X5:=aa (ac hb5 (lt_of_block X4.out) X4.out);have HB5:=aa hB;clear hb5 hB k0 X4 B4 HSY;go_upto_region 11 with (refine wpList_store_row rfl 61 _ _ rfl w5.heap.size #[.int .i64 N,.slice o LB c] rfl rfl 61 _ (heap_alloc_new _ _) (by kernel_rfl) rfl (by simp[Value.oneCell']) ?_;rw[World.setRow_alloc_new]);refine mj ?_;intro w6 hW6
  have hb6:Below w5.heap.size w5 w6:=by rw[hW6];exact aD
  have G6:=aa (show w6.heap[w5.heap.size]?=some (.cells #[.int .i64 N,.slice o LB c] 61 (0,0)) by rw[hW6];exact heap_alloc_new _ _);have B6:=bU B5 hb6;have X6:=aa (ac hb6 (lt_of_block X5.out) X5.out);have HB6:=aa (HB5.out.below hb6 (Nat.le_refl _));obtain⟨g1,hg1⟩:=ag w5.heap.size;rw[hg1] at G6 ⊢;(try simp only[Act.put]);clear hW6 hb6 hg1 B5 X5 HB5;have k0:=ak X6.out;unfold FV.arr at k0;go_wp2_with fail;refine(HRS.out _ B6.out).mono ?_;rintro e w7 ⟨⟨o2,c2,rfl,hB⟩,hb7⟩;have B7:=bU B6 hb7;have G7:=aa (ac hb7 (lt_of_block G6.out) G6.out);have HB7:=aa (HB6.out.below hb7 (Nat.le_refl _));have HC7:=aa hB;clear hb7 hB k0 X6 B6 G6 HB6 HRS;go_upto_region 12 with (refine wpList_store_row rfl 61 _ _ rfl w7.heap.size #[.int .i64 N,.slice o2 LB c2] rfl rfl 61 _ (heap_alloc_new _ _) (by kernel_rfl) rfl (by simp[Value.oneCell']) ?_;rw[World.setRow_alloc_new]);refine mj ?_;intro w8 hW8
  have hb8:Below w7.heap.size w7 w8:=by rw[hW8];exact aD
  have J8:=aa (show w8.heap[w7.heap.size]?=some (.cells #[.int .i64 N,.slice o2 LB c2] 61 (0,0)) by rw[hW8];exact heap_alloc_new _ _);have B8:=bU B7 hb8;have G8:=aa (ac hb8 (lt_of_block G7.out) G7.out);have HB8:=aa (HB7.out.below hb8 (Nat.le_refl _));have HC8:=aa (HC7.out.below hb8 (Nat.le_refl _));obtain⟨g2,hg2⟩:=ag w7.heap.size;rw[hg2] at J8 ⊢;(try simp only[Act.put]);clear hW8 hb8 hg2 B7 G7 HB7 HC7;have ka:=ak G8.out;have kb:=ak J8.out;go_wp2_with fail;clear ka kb
  go_loopw [14] (fun p wr=>∃(k:Nat),k≤LB∧p=.int .i64 (k:Int)∧Hid (Below w8.heap.size w8 wr)) (fun p _=>LB-(intOf p).toNat)
  case atStart=>exact⟨0,Nat.zero_le _,rfl,aa (Below.refl _ _)⟩
  case round =>
   obtain⟨k,hk,rfl,HB⟩:=hrel;obtain⟨w99Q,rfl⟩:∃z:World,z=wr:=⟨wr,rfl⟩;have hlb:=HLB.out;have B99Q:=bU B8 HB.out;have G9:=aa (ac HB.out (lt_of_block G8.out) G8.out);have J9:=aa (ac HB.out (lt_of_block J8.out) J8.out);have ka:=ak G9.out;have kb:=ak J9.out
   by_cases hlt:k<LB
   rotate_left
   ·go_wp2_with fail
    refine(HSV.out _).mono ?_;rintro e wz9Q ⟨rfl,hbz⟩;have BZ9Q:=aa (B0.out.trans ((bB B99Q.out hbz).mono B0.out.size));clear hbz;go_wp2_with fail;go_ret;exact⟨rfl,BZ9Q.out⟩
   obtain⟨b1,o1,rfl,hl1,hc1⟩:=BoundsAt.at (HB8.out.below HB.out (Nat.le_refl _)) (show k<BS9Q.length by rw[HLE.out];exact hlt);obtain⟨b2,o3,rfl,hl2,hc2⟩:=BoundsAt.at (HC8.out.below HB.out (Nat.le_refl _)) (show k<BS9Q.length by rw[HLE.out];exact hlt);have HR1:=aa (fun V (hV:Below w99Q.heap.size w99Q V)=>bd_range (hc1.below hV hl1));have HR2:=aa (fun V (hV:Below w99Q.heap.size w99Q V)=>bd_range (hc2.below hV hl2));obtain⟨⟨z1,z2,z3,z4⟩,hz⟩:=ag (BS9Q[k]'(by rw[HLE.out];exact hlt));rw[hz] at HR1 HR2;dsimp only at HR1 HR2
   have hk1:(k:Int)<(LB:Int):=by omega
   have hk0:(0:Int)≤(k:Int):=by omega
   clear hc1 hc2 hl1 hl2 hz;go_upto_region 17 with fail;clear ka kb
   go_cut [108] (fun t wx=>t=.bool false∧Hid (Below w99Q.heap.size w99Q wx))
   case first =>
    refine aJ (S:=Below w99Q.heap.size w99Q) (last:=100) (by kernel_rfl) ?_;obtain⟨W0,hW0⟩:∃W,W=w99Q.drew:=⟨_,rfl⟩
    have hS0:Below w99Q.heap.size w99Q W0:=by rw[hW0];exact(Below.refl _ _).drew
    rw[←hW0];clear hW0;refine aR 0 98 (.pointer (some ⟨g1,1,none⟩)) hS0 ?_;(try simp only[s3]);refine tf 1 99 (.slice (some ⟨b1,o1,none⟩) LB c) hS0 (fun V hV=>?_) ?_
    ·(have z:V.cell? ⟨g1,1,none⟩=some (.slice (some ⟨b1,o1,none⟩) LB c):=ce (i:=1) (ac hV (lt_of_block G9.out) G9.out) rfl;simp[go_sem,execOp,z])
    (try simp only[s3]);refine aR 2 100 (.int .i64 ((k:Int))) hS0 ?_;(try simp only[s3]);refine tf 3 101 (.pointer (some ⟨b1,o1+k*4,none⟩)) hS0 (fun V hV=>?_) ?_
    ·simp[go_sem,execOp,hk1,hk0]
    (try simp only[s3]);refine tf 4 102 (.agg #[.int .i64 z1,.int .i64 z2,.int .i64 z3,.int .i64 z4]) hS0 (fun V hV=>?_) ?_
    ·exact ymid rfl rfl (HR1.out V hV) underlying65 rfl (by kernel_rfl)
    (try simp only[s3]);refine aR 5 103 (.pointer (some ⟨g2,1,none⟩)) hS0 ?_;(try simp only[s3]);refine tf 6 104 (.slice (some ⟨b2,o3,none⟩) LB c2) hS0 (fun V hV=>?_) ?_
    ·(have z:V.cell? ⟨g2,1,none⟩=some (.slice (some ⟨b2,o3,none⟩) LB c2):=ce (i:=1) (ac hV (lt_of_block J9.out) J9.out) rfl;simp[go_sem,execOp,z])
    (try simp only[s3]);refine aR 7 105 (.int .i64 ((k:Int))) hS0 ?_;(try simp only[s3]);refine tf 8 106 (.pointer (some ⟨b2,o3+k*4,none⟩)) hS0 (fun V hV=>?_) ?_
    ·simp[go_sem,execOp,hk1,hk0]
    (try simp only[s3]);refine tf 9 107 (.agg #[.int .i64 z1,.int .i64 z2,.int .i64 z3,.int .i64 z4]) hS0 (fun V hV=>?_) ?_
    ·exact ymid rfl rfl (HR2.out V hV) underlying65 rfl (by kernel_rfl)
    (try simp only[s3]);refine tf 10 108 (.bool false) hS0 (fun V hV=>?_) ?_
    ·simp[go_sem,execOp,guard65,neq65]
    (try simp only[s3]);refine aw (by kernel_rfl) ?_ _;go_wp2_with fail;go_meet;exact⟨rfl,aa hS0⟩
   case rest =>
   obtain⟨rfl,HB2⟩:=hcut;obtain⟨w10,rfl⟩:∃z:World,z=wc:=⟨wc,rfl⟩;have BN9Q:=bU HB HB2.out;clear HB2 HB G9 J9 B99Q HR1 HR2;go_wp2_with fail;go_roundw
   case rel=>exact⟨k+1,by omega,by go_num,BN9Q⟩
   case measure=>simp[intOf];omega
end Go.Proofs.YtkhemfnlflbniaaGreatDoor
namespace Go.Proofs.YtkhemfnlflbniaaGreatDoor
open Go Go.ChangeShapes Go.WideShapes Go.ChangeAt Go.RowKit Go.Joins Go.Deep Go.Proofs.Tryz
theorem and2 {a b:Bool} (ha:a=true) (hb:b=true):(a&&b)=true:=by rw[ha,hb];rfl
section
variable {H:Type} {enc:TypeId×Value→H}
theorem trodAll_below {W W':World} (hb:Below W.heap.size W W'):∀(ts:List TypeId) (vs:List Value) (ds:List (DataW H)) (ps:List MemPlace),(∀t∈ts,tY t)→DataW.TrodAll enc prog W 0 (fun _=>true) true ts vs ds ps →
 (∀x∈ps,x.block<W.heap.size)→DataW.TrodAll enc prog W' 0 (fun b=>decide (b<W.heap.size)) true ts vs ds ps
 | [],vs,ds,ps,_,h,_=>by
   obtain⟨rfl,rfl,rfl⟩:=trodAll_nil h;exact trodAll_mk0
 | t::ts,vs,ds,ps,hT,h,hs=>by
   obtain⟨v,vs',d,ds',p,q,rfl,rfl,rfl,h1,h2⟩:=trodAll_cons h;have ht:=hT t (List.mem_cons_self ..);exact trodAll_cons_mk (Below.trod Tryz.laidOut ht.1 ht.2 h1 hb (fun x hx=>hs x (List.mem_append_left _ hx))) (trodAll_below hb ts vs' ds' q (fun x hx=>hT x (List.mem_cons_of_mem _ hx)) h2 (fun x hx=>hs x (List.mem_append_right _ hx)))
theorem law_post {f:Func} {s:ChangeSpec} {W W':World} {args:Array Value} {ds gs:List (DataW H)} {before:List MemPlace}
 (hW:DataW.Whole enc prog f.params.toList s.vars false W args.toList ds gs before) (hb:Below W.heap.size W W') (hrt:f.resultTypes=#[4])
 (hts:∀t∈f.params.toList,tY t) (hsv:s.vars=[]) (hfn:s.fn H (ds++[])={ results:=[.lit (.bool true)],args:=ds }) :
 s.post enc prog f false true false false W args (.bool true) W':=by
 have hW':=hW;obtain⟨p,q,hA,hV,rfl,hfz,hnd⟩:=hW;have hV':=hV;rw[hsv] at hV';obtain⟨rfl,rfl⟩:=trodVars_none hV'
 have hlt:∀x∈p,x.block<W.heap.size:=fun x hx=>by
  have:=hW'.lt x;exact this (List.mem_append_left _ hx)
 refine⟨ds,[],p++[],[],p,[],hW',?_,?_,?_,hb.frame _,fun h=>by cases h⟩
 ·rw[hfn,hrt]
  exact trodAll_cons_mk (shut_bool underlying4 _) trodAll_mk0
 ·rw[hfn]
  exact trodAll_below hb _ _ _ _ hts hA hlt
 ·rw[hfn,hsv]
  rfl
end
theorem argOk46:tY 27:=⟨by kernel_rfl,of_decide_eq_true (by kernel_rfl)⟩
section
variable {H:Type} {enc:TypeId×Value→H}
theorem sta_trod {W:World} {n:Nat} {cs:List Value} {y:DataW H×List MemPlace} (hl:cs.length=2) (h:DataW.trod enc prog W 0 (fun _=>true) true n 131 cs=some y):∃s:Sta,cs=s.cells∧s.name.size≤9223372036854775807∧bK s.x:=by
 have c9:Tryz.prog.cellsOf 9=1:=by kernel_rfl
 have c3:Tryz.prog.cellsOf 3=1:=by kernel_rfl
 match cs,hl with
 | [u0,u1],_ =>
   obtain⟨ys,n2,_,_,_,hyl,hf⟩:=DataW.trod_struct underlying131 h
   match ys,hyl with
   | [y0,y1],_ =>
     have f0:DataW.trod enc prog W 0 (fun _=>true) true n2 9 (([u0,u1].drop 0).take (Tryz.prog.cellsOf 9))=some y0:=hf 0 _ rfl;have f1:DataW.trod enc prog W 0 (fun _=>true) true n2 3 (([u0,u1].drop 1).take (Tryz.prog.cellsOf 3))=some y1:=hf 1 _ rfl;rw[c9] at f0;rw[c3] at f1;obtain⟨k0,rfl,o0⟩:=zu (v:=u0) (y:=y0) f0;obtain⟨k1,rfl,o1⟩:=bA (v:=u1) (y:=y1) f1;exact⟨⟨k0,k1⟩,rfl,o0,o1⟩
theorem par_trod {W:World} {n:Nat} {cs:List Value} {y:DataW H×List MemPlace} (hl:cs.length=4) (h:DataW.trod enc prog W 0 (fun _=>true) true n 133 cs=some y):∃s:Par,cs=s.cells∧s.name.size≤9223372036854775807∧bK s.south∧bK s.wst∧bK s.est:=by
 have c9:Tryz.prog.cellsOf 9=1:=by kernel_rfl
 have c3:Tryz.prog.cellsOf 3=1:=by kernel_rfl
 match cs,hl with
 | [u0,u1,u2,u3],_ =>
   obtain⟨ys,n2,_,_,_,hyl,hf⟩:=DataW.trod_struct underlying133 h
   match ys,hyl with
   | [y0,y1,y2,y3],_ =>
     have f0:DataW.trod enc prog W 0 (fun _=>true) true n2 9 (([u0,u1,u2,u3].drop 0).take (Tryz.prog.cellsOf 9))=some y0:=hf 0 _ rfl;have f1:DataW.trod enc prog W 0 (fun _=>true) true n2 3 (([u0,u1,u2,u3].drop 1).take (Tryz.prog.cellsOf 3))=some y1:=hf 1 _ rfl;have f2:DataW.trod enc prog W 0 (fun _=>true) true n2 3 (([u0,u1,u2,u3].drop 2).take (Tryz.prog.cellsOf 3))=some y2:=hf 2 _ rfl;have f3:DataW.trod enc prog W 0 (fun _=>true) true n2 3 (([u0,u1,u2,u3].drop 3).take (Tryz.prog.cellsOf 3))=some y3:=hf 3 _ rfl;rw[c9] at f0;rw[c3] at f1 f2 f3;obtain⟨k0,rfl,o0⟩:=zu (v:=u0) (y:=y0) f0;obtain⟨k1,rfl,o1⟩:=bA (v:=u1) (y:=y1) f1;obtain⟨k2,rfl,o2⟩:=bA (v:=u2) (y:=y2) f2;obtain⟨k3,rfl,o3⟩:=bA (v:=u3) (y:=y3) f3;exact⟨⟨k0,k1,k2,k3⟩,rfl,o0,o1,o2,o3⟩
theorem vrn_trod {W:World} {n:Nat} {cs:List Value} {y:DataW H×List MemPlace} (hl:cs.length=2) (h:DataW.trod enc prog W 0 (fun _=>true) true n 253 cs=some y):∃s:Vrn,cs=s.cells∧bK s.year∧bK s.east:=by
 have c3:Tryz.prog.cellsOf 3=1:=by kernel_rfl
 match cs,hl with
 | [u0,u1],_ =>
   obtain⟨ys,n2,_,_,_,hyl,hf⟩:=DataW.trod_struct underlying253 h
   match ys,hyl with
   | [y0,y1],_ =>
     have f0:DataW.trod enc prog W 0 (fun _=>true) true n2 3 (([u0,u1].drop 0).take (Tryz.prog.cellsOf 3))=some y0:=hf 0 _ rfl;have f1:DataW.trod enc prog W 0 (fun _=>true) true n2 3 (([u0,u1].drop 1).take (Tryz.prog.cellsOf 3))=some y1:=hf 1 _ rfl;rw[c3] at f0 f1;obtain⟨k0,rfl,o0⟩:=bA (v:=u0) (y:=y0) f0;obtain⟨k1,rfl,o1⟩:=bA (v:=u1) (y:=y1) f1;exact⟨⟨k0,k1⟩,rfl,o0,o1⟩
theorem open_fld {b0:Nat} {W:World} {v:Value} {d:DataW H} {p:List MemPlace} (hv:Value.okWide prog W .any b0 27 v) (h:DataW.Trod enc prog W 0 (fun _=>true) true 27 v d p) :
 ∃(x:FV) (F:Fld),v=x.val F∧FldAt W x F:=by
 obtain⟨v0,v1,v2,v3,y0,y1,y2,y3,n,rfl,_,_,h0,h1,h2,h3⟩:=open_agg4 underlying27 (by kernel_rfl) (by kernel_rfl) hv h;obtain⟨aS,cS,sts,e0,r0,l0,k0⟩:=xP (k:=2) (f:=Sta.cells) (by omega) underlying22 (by kernel_rfl) (fun n cs y hl hh=>sta_trod hl hh) h0
 obtain⟨aL,cL,lms,e1,r1,l1,k1⟩:=xP (k:=1) (f:=cO) (by omega) underlying23 (by kernel_rfl) (fun n cs y hl hh=>by
  match cs,hl with
  | [u],_ =>
    obtain⟨s,rfl,hs⟩:=zu hh
    exact⟨s,rfl,hs⟩) h1
 obtain⟨aP,cP,prs,e2,r2,l2,k2⟩:=xP (k:=4) (f:=Par.cells) (by omega) underlying24 (by kernel_rfl) (fun n cs y hl hh=>par_trod hl hh) h2;obtain⟨aV,cV,vrs,e3,r3,l3,k3⟩:=xP (k:=2) (f:=Vrn.cells) (by omega) underlying25 (by kernel_rfl) (fun n cs y hl hh=>vrn_trod hl hh) h3;simp only[List.cons.injEq,and_true] at e0 e1 e2 e3;subst e0 e1 e2 e3;refine⟨⟨aS,cS,aL,cL,aP,cP,aV,cV⟩,⟨sts,lms,prs,vrs⟩,rfl,r0,r1,r2,r3,l0,l1,l2,l3,?_,fun s hs=>(k0 s hs).2,fun s hs=>(k2 s hs).2,k3⟩;intro l hl s hs;simp only[Fld.names,List.mem_cons,List.not_mem_nil,or_false] at hl
 rcases hl with rfl|rfl|rfl
 ·obtain⟨t,ht,rfl⟩:=List.mem_map.1 hs
  exact(k0 t ht).1
 ·exact k1 s hs
 ·obtain⟨t,ht,rfl⟩:=List.mem_map.1 hs
  exact(k2 t ht).1
end
end Go.Proofs.YtkhemfnlflbniaaGreatDoor
