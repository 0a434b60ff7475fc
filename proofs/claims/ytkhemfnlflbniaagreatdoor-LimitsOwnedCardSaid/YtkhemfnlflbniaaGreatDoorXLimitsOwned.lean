/- What the law LimitsOwned needs beyond the base: PureG, Wm, Wo, PlK, PlQ, Y2, Lm2, Lm4, Lm5, Lm6, Lm7, Lm9, PlN, Yk, E23, J0, J1, J2, J4, H1, H2, E25, Lp4, J3, J5, F10, Fr, Frf. No conditions beyond those stated. -/
import Derived.Test.YtkhemfnlflbniaaGreatDoorB03
import Derived.Test.YtkhemfnlflbniaaGreatDoorB02
import Derived.Test.YtkhemfnlflbniaaGreatDoorB01
import Derived.Test.YtkhemfnlflbniaaGreatDoorProg
import Derived.WalkKit
import Derived.Handy
import Derived.RangeFuncRecord
import Derived.Shelf.Abstract
import Derived.Deep.QuietTactic
import Derived.BigQuiet
import Derived.Laws.CopyOwn
import Derived.WalkSmall
import Derived.RangeFuncNested
import Derived.RangeFuncBound
import Derived.RangeFuncCalls
import Derived.RangeFuncLeaves
import Derived.Shelf.RegionOpen
import Derived.OwnWalkIn
import Derived.TacticsInMore
import Derived.LoopNIn
import Derived.LoopIn
import Derived.Maps.AppendAt
import Derived.Deep.Onto
import Derived.OrdersHeld
import Derived.Deep.LoopGhost
import Derived.Deep.WholeRow
import Derived.Deep.OwnRows
import Derived.StillTailTactics
import Derived.Great.Walk
import Derived.Great.BuildSlice
import Derived.Test.YtkhemfnlflbniaaGreatDoorB05
import Derived.Test.YtkhemfnlflbniaaGreatDoorB07
import Derived.Test.YtkhemfnlflbniaaGreatDoorB06
import Derived.Test.YtkhemfnlflbniaaGreatDoorB04
import Derived.WalkMore
import Derived.Deep.MidRow
import Derived.Deep.RegionHeld3
import Derived.Deep.DeepCutAuto
import Derived.Shelf.Small.Bits
import Derived.Shelf.Small.Wraps
import Derived.Shelf.Strconv.Itoa0
import Derived.Shelf.Sort.Plain
import Derived.Shelf.Slices.Turned
import Derived.Ground.Names2Prog
import Derived.Shelf.Slices.CompactI
import Derived.Shelf.Slices.Cells
import Derived.Shelf.Slices.In.SortNone
import Derived.Lib.OwnBridge
import Derived.Lib.SliceRun
import Derived.WalkSpells
import Derived.Deep.RegionWith
import Derived.Lib.AppendZerosOnto
import Derived.Deep.CutBlock
import Derived.Test.YtkhemfnlflbniaaGreatDoorB09
import Derived.Test.YtkhemfnlflbniaaGreatDoorB08
import Derived.IntWalk
import Derived.Test.YtkhemfnlflbniaaGreatDoorB10
import Derived.Test.YtkhemfnlflbniaaGreatDoorB13
import Derived.Test.YtkhemfnlflbniaaGreatDoorB12
import Derived.Test.YtkhemfnlflbniaaGreatDoorB11
import Derived.Deep.Cut
import Derived.Laws.Rows
import Derived.Laws.Tables
import Derived.Laws.StructEq
import Derived.OrdersIn
import Derived.RangeFuncBox
import Derived.Test.YtkhemfnlflbniaaGreatDoorB14
import Derived.Test.YtkhemfnlflbniaaGreatDoorB15
import Derived.Test.YtkhemfnlflbniaaGreatDoorRows
import Derived.ProofKit
import Derived.OpenShut
import Derived.Carry
import Derived.Lib.SmallJoins
import Derived.Deep.Slices
import Derived.ChangeMaps5
set_option maxRecDepth 100000
set_option maxHeartbeats 8000000
namespace Go.Proofs.YtkhemfnlflbniaaGreatDoor
def distanceP (N:Int) (bs:List Bd) (a b:Int):Int×Bool×Int :=
 if bc N bs [a,b]=0 then(nV (aF N.toNat bs a.toNat b.toNat),nB (aF N.toNat bs a.toNat b.toNat),0) else(0,false,bc N bs [a,b])
theorem asked0 {N:Int} {bs:List Bd} (h:bc N bs []=0):∃(R:Nat) (t:List Int),N=R∧aG N bs=some t∧NetOk R bs t:=by
 obtain⟨hc,hp,t,ht⟩:=iQ h;obtain⟨n0,n1,n2,nv⟩:=cR hc;obtain⟨R,rfl⟩:=Int.eq_ofNat_of_zero_le (show 0≤N by omega);exact⟨R,t,rfl,ht,iX h ht⟩
def tableP (N:Nat) (t:List Int) (bs:List Bd):List (List Int):=(List.range N).map fun(a:Nat)=>dW N t bs (a:Int)
theorem tableP_get (N:Nat) (t:List Int) (bs:List Bd) {a:Nat} (h:a<N):(tableP N t bs).getD a []=dW N t bs a:=by
 simp[tableP,List.getD_eq_getElem?_getD,h]
theorem tableP_length (N:Nat) (t:List Int) (bs:List Bd):(tableP N t bs).length=N:=by simp[tableP]
def tget (T:List (List Int)) (a b:Nat):Int:=(T.getD a []).getD b 0
end Go.Proofs.YtkhemfnlflbniaaGreatDoor
namespace Go.Proofs.YtkhemfnlflbniaaGreatDoor
open Go Go.RowKit Go.Shelf Go.Proofs.Tryz
theorem distance_any (w:World) (N:Int) (a:Option Addr) (cap:Nat) (bs:List Bd) (x y:Int) (hN:bK N) (hl:bs.length≤9223372036854775807) (h:BoundsAt w a bs) :
 Calls prog 197 #[.agg #[.int .i64 N,.slice a bs.length cap],.int .i64 x,.int .i64 y] w fun e w'=>e=.returned (.tuple #[.int .i64 (distanceP N bs x y).1,.bool (distanceP N bs x y).2.1,.int .i64 (distanceP N bs x y).2.2])∧Below w.heap.size w w':=by
 have H:=aa h;have HN:=aa hN;clear h hN;have hB0:Below w.heap.size w ((w.alloc (.cells #[.int .i64 N,.slice a bs.length cap] 61)).alloc (.cells #[.int .i64 x,.int .i64 y] 3)):=(aD).alloc (by simp) _;have hints:=rL (w.alloc (.cells #[.int .i64 N,.slice a bs.length cap] 61)) x y;simp only[World.size_alloc] at hints
 have hask:Calls prog 143 #[.agg #[.int .i64 N,.slice a bs.length cap],.slice (some ⟨w.heap.size+1,0,none⟩) 2 2] ((w.alloc (.cells #[.int .i64 N,.slice a bs.length cap] 61)).alloc (.cells #[.int .i64 x,.int .i64 y] 3)) _ :=
  lI _ N a cap bs (some ⟨w.heap.size+1,0,none⟩) 2 [x,y] HN.out hl (by simp) ((H.out.alloc (.cells #[.int .i64 N,.slice a bs.length cap] 61)).alloc (.cells #[.int .i64 x,.int .i64 y] 3)) hints
 clear hints
 by_cases he:bc N bs [x,y]=0
 ·obtain⟨R,x',y',t,rfl,rfl,rfl,hx,hy,ht,HO⟩:=zI he
  have hd:distanceP R bs x' y'=(nV (aF R bs x' y'),nB (aF R bs x' y'),0):=by unfold distanceP;rw[if_pos he];simp
  obtain⟨r,hr⟩:=ag (dW R t bs x')
  have hdn:aF R bs x' y'=r.getD y' 0:=by unfold aF;rw[eB ht,hr]
  have hrl:r.length=128:=by rw[←hr];exact(HO.row hx).1
  have hn1:=HO.n1
  have hidx:=fun W=>fY W r y' hrl (by omega)
  have HD:=aa hd;have HDN:=aa hdn;have HE:=aa he;have HT:=aa ht;have HR:=aa hr;clear hd hdn he ht hr hrl;obtain⟨v,hv⟩:=ag (r.getD y' 0);rw[hv] at hidx;have HV:=aa hv;clear hv;have HA:=aa hask;clear hask;go_enter func197,ntmps197;go_wp2_with fail;refine HA.out.mono ?_;rintro e w1 ⟨hp,hb1⟩;unfold cB at hp;rw[if_pos HE.out] at hp;obtain⟨bn,t',ht',rfl,hbn,hcell⟩:=hp
  have htt:t'=t:=by have:=HT.out;rw[ht'] at this;exact Option.some.inj this
  subst htt;have B1:=bB hB0 hb1;have hdist:=ki w1 bn R a cap bs t' x' HO hx (H.out.below B1 (Nat.le_refl _)) hcell;rw[HR.out] at hdist;have HDI:=aa hdist;have HB1:=aa B1;clear hdist hcell ht' hb1 B1 hbn
  go_wp2_with (first
   | (go_at_call 191;refine HDI.out.mono ?_;rintro e w2 ⟨rfl,hb2⟩)
   | (go_at_call 190;refine(f9 _ _).mono ?_;rintro e w' ⟨rfl,rfl⟩))
  go_ret3;exact⟨by rw[HD.out,HDN.out,HV.out];rfl,bB HB1.out hb2⟩
 ·have hd:distanceP N bs x y=(0,false,bc N bs [x,y]):=by unfold distanceP;rw[if_neg he]
  have HD:=aa hd;have HE:=aa he;obtain⟨c,hc⟩:=ag (bc N bs [x,y])
  have hc1:(c==0)=false:=by rw[←hc];simpa using he
  have hc2:(c != 0)=true:=by rw[←hc];simpa using he
  have HC:=aa hc;have HA:=aa hask;clear hd he hc hask;go_enter func197,ntmps197;go_wp2_with fail;refine HA.out.mono ?_;rintro e w1 ⟨hp,hb1⟩;unfold cB at hp;rw[if_neg HE.out,HC.out] at hp;subst hp;go_wp2_with fail;go_ret3;exact⟨by rw[HD.out,HC.out];rfl,bB hB0 hb1⟩
theorem map_range_succ {α:Type} (f:Nat→α) (k:Nat):(List.range (k+1)).map f=(List.range k).map f++[f k]:=by rw[List.range_succ,List.map_append];rfl
theorem table_any (w:World) (bn R:Nat) (a:Option Addr) (cap:Nat) (bs:List Bd) (t:List Int) (HO:NetOk R bs t) (hB:BoundsAt w a bs) (hn:w.heap[bn]?=some (.cells (lG R (.slice a bs.length cap) t) 265 (0,0))) :
 Calls prog 246 #[.pointer (some ⟨bn,0,none⟩)] w fun e w'=>∃v,e=.returned v∧Below w.heap.size w w'∧w'.ownsRow w.heap.size 189 128 v R (eO (tableP R t bs)):=by
 have dn:∀q,q<R→∀W,Below w.heap.size w W→Calls prog 191 #[.pointer (some ⟨bn,0,none⟩),.int .i64 (q:Int),.func (.func 152) #[] #[]] W fun e W'=>e=.returned (.agg (bt (dW R t bs q)))∧Below W.heap.size W W' :=
  fun q hq W hb=>ki W bn R a cap bs t q HO hq (hB.below hb (Nat.le_refl _)) (ac hb (lt_of_block hn) hn)
 have hn1:=HO.n1
 have hrl:∀q,q<R→(dW R t bs q).length=128:=fun q hq=>(HO.row hq).1
 have e0:w.cell? ⟨bn,0,none⟩=some (.int .i64 (R:Int)):=bu hn rfl;have hbn:=lt_of_block hn;have DN:=aa dn;have HRL:=aa hrl;clear dn hrl hB hn;go_enter func246,ntmps246;go_wp2_with fail
 go_loopw [3,10] (fun v i wr=>∃k:Nat,k≤R∧i=.int .i64 k∧Hid (wr.ownsRow w.heap.size 189 128 v k (eO ((List.range k).map fun(q:Nat)=>dW R t bs q)))∧Below w.heap.size w wr)
  (fun _ i _=>R-(intOf i).toNat)
 case atStart=>exact⟨0,Nat.zero_le _,rfl,aa (World.ownsRow_nil _ _ _ _),by go_grown⟩
 case round =>
  obtain⟨k,hk,rfl,hown,hb⟩:=hrel
  by_cases hlt:k<R
  ·have hcall:=DN.out k hlt wr hb
   obtain⟨r,hr⟩:=ag (dW R t bs k);have hrl:=HRL.out k hlt;rw[hr] at hcall hrl;have hbr:Hid (Tryz.prog.builtSlice 189 1 [(0,.agg (bt r))]=some (bt r)):=aa (tH hrl);have HR:=aa hr;have HC:=aa hcall;have HL:=aa hrl;clear hr hcall hrl;go_wp2_with fail;refine HC.out.mono ?_;rintro e w1 ⟨rfl,hb1⟩
   have hv:∀g,u3.ownBlock=some g→g<wr.heap.size:=fun g e=>by
    rcases hown.out.2 with ⟨e1,_⟩|⟨g1,cp',cu,e1,_,hh,_⟩
    ·rw[e1] at e;simp[Value.ownBlock] at e
    ·rw[e1] at e
     simp only[Value.ownBlock,Option.some.injEq] at e;subst e;exact lt_of_block hh
   have own1:w1.ownsRow w.heap.size 189 128 u3 k (eO ((List.range k).map fun(q:Nat)=>dW R t bs q)):=av hown.out (fun g e=>hb1.block g (hv g e));obtain⟨i0,hi,hz0,hz1,hz2⟩:=info_parts Bk;have hsz:=Nat.le_trans hb.size hb1.size
   obtain⟨v',wa,hrun,hown',hgrow,hnil,hblk⟩:=run_append_own_at (P:=prog) (w1.alloc (Obj.cells (bt r) 189)) w.heap.size 185 185 189 i0 _ 128 1024 underlying185 hi hz0 hz1 hz2 rfl (by decide) u3 _ _
    (own1.alloc _) ⟨w1.heap.size,0,none⟩ 1 1 (ay r) (by simp[ay,HL.out]) (by
     intro j u hj;rw[show((⟨w1.heap.size,0,none⟩:Addr).add j)=⟨w1.heap.size,0+j,none⟩ from by unfold Addr.add;split<;>simp_all];rw[cell_of_row _ _ _ _ _ _ (heap_alloc_new w1 _),Nat.zero_add]
     simpa [bt] using hj) (by intro u hu;simp[ay] at hu;obtain⟨q,_,rfl⟩:=hu;rfl) (by unfold maxLen;omega) (by omega) (by simp;omega)
   have HRUN:=aa hrun;have HOWN:=aa hown'
   have hb2:Below w.heap.size w wa:=((bB hb hb1).alloc hsz _).grown hgrow (by simp;omega) (fun q e=>by
    rcases own1.2 with ⟨e1,_⟩|⟨g1,cp',cu,e1,hge,hh,_⟩
    ·rw[e1] at e;simp[Value.ownBlock] at e
    ·rw[e1] at e
     simp only[Value.ownBlock,Option.some.injEq] at e
     omega)
   have HB2:=aa hb2;clear hrun hown' hgrow hnil hblk hb2 own1 hv hb1 hown hsz
   go_wp2_with (first
    | (refine Great.wpList_buildSliceTo rfl 185 189 1 _ rfl _ rfl _ rfl underlying185 _ (by simp[Act.eval];exact hbr.out) ?_)
    | (at_builtin;refine aN rfl (s:=.tmp 13) (x:=.tmp 17) (t:=185) rfl rfl rfl HRUN.out ?_))
   go_roundw
   case rel=>exact⟨k+1,by omega,by go_num,aa (by rw[map_range_succ,rF,lw,HR.out];exact HOWN.out),HB2.out⟩
   case measure=>simp[intOf];omega
  ·obtain rfl:k=R:=by omega
   go_wp2_with fail;go_ret;exact⟨_,rfl,hb,hown.out⟩
end Go.Proofs.YtkhemfnlflbniaaGreatDoor
namespace Go.Proofs.YtkhemfnlflbniaaGreatDoor
theorem nV_near {v:Int} (h:v<aC):nV v=v:=by unfold nV;unfold aC at h;rw[if_neg (by omega)]
def valuesB (N:Int) (y:List Int):Bool:=decide ((y.length:Int)=N)&&(y.getD 0 0==0)&&!(y.any fun v=>!bm v (-400000000) 400000000)
def keptB (y:List Int) (b:Bd):Bool:=decide (b.most<az y b.dst-az y b.src)
def keptE (N:Int) (bs:List Bd) (y:List Int):Int×Bool×Int :=
 if aO N bs≠0 then(0,false,aO N bs) else if valuesB N y=false then(0,false,1) else(max (bk (keptB y) bs) 0,decide (bk (keptB y) bs<0),0)
theorem valuesB_iff {N:Nat} {y:List Int}:valuesB N y=true↔y.length=N∧y.getD 0 0=0∧∀v∈y,-400000000≤v∧v≤400000000:=by
 unfold valuesB;simp only[Bool.and_eq_true,decide_eq_true_eq,beq_iff_eq,Bool.not_eq_true',List.any_eq_false,and_assoc]
 constructor
 ·rintro⟨h1,h2,h3⟩;exact⟨by omega,h2,fun v hv=>kB.1 (by simpa using h3 v hv)⟩
 ·rintro⟨h1,h2,h3⟩;exact⟨by omega,h2,fun v hv=>by simp[kB.2 (h3 v hv)]⟩
theorem kept_pot {bs:List Bd} {y:List Int}:bk (keptB y) bs<0↔yD y bs:=by
 rw[ji];unfold yD keptB;simp only[List.any_eq_false,decide_eq_true_eq]
 constructor
 ·intro h b hb;have:=h b hb;omega
 ·intro h b hb;have:=h b hb;omega
theorem keptE_iff {N:Nat} {bs:List Bd} {y:List Int} (hc:aO N bs=0):(keptE N bs y).2.1=true↔my N bs y:=by
 unfold keptE;rw[if_neg (by simp[hc])]
 split
 ·rename_i h
  constructor
  ·intro e;simp at e
  ·intro k;rw[valuesB_iff.2 ⟨k.len,k.zero,k.bd⟩] at h;simp at h
 ·rename_i h
  have h2:=valuesB_iff.1 (by simpa using h);simp only[decide_eq_true_eq];rw[kept_pot];exact⟨fun p=>⟨h2.1,h2.2.1,h2.2.2,p⟩,fun k=>k.pot⟩
theorem keptE_err {N:Nat} {bs:List Bd} {y:List Int} (hc:aO N bs=0) (h:(keptE N bs y).2.1=true):(keptE N bs y).2.2=0∧(keptE N bs y).1=0:=by
 unfold keptE at h ⊢;rw[if_neg (by simp[hc])] at h ⊢
 split at h
 ·simp at h
 ·rename_i h2
  rw[if_neg h2];simp only[decide_eq_true_eq] at h;exact⟨rfl,by simp only;omega⟩
def extremeE (N:Int) (bs:List Bd) (d:Nat→Int) (v:List Int):List Int×Int :=
 if bc N bs []=0 then(if(List.range N.toNat).any (fun p=>!nB (d p)) then([],5) else(v,0)) else([],bc N bs [])
def greatestE (N:Int) (bs:List Bd):List Int×Int:=extremeE N bs (fun p=>aF N.toNat bs 0 p) (qa N.toNat bs)
def leastE (N:Int) (bs:List Bd):List Int×Int:=extremeE N bs (fun p=>aF N.toNat bs p 0) (xC N.toNat bs)
end Go.Proofs.YtkhemfnlflbniaaGreatDoor
namespace Go.Proofs.YtkhemfnlflbniaaGreatDoor
open Go Go.RowKit Go.Shelf Go.Proofs.Tryz
theorem within_at {n a b:Int} {r:Bool} (h:bm n a b=r) (w:World):Calls prog 232 #[.int .i64 n,.int .i64 a,.int .i64 b] w fun e w'=>e=.returned (.bool r)∧w=w':=by
 rw[←h];exact jS n a b w
theorem values1_any (w:World) (v:Int):Calls prog 282 #[.int .i64 v] w fun e w'=>e=.returned (.bool (!bm v (-400000000) 400000000))∧w=w':=by
 obtain⟨r,hr⟩:=ag (bm v (-400000000) 400000000);rw[hr];have HR:=aa hr;clear hr;go_enter func282,ntmps282;go_wp2_with (go_at_call 232;refine(within_at HR.out _).mono ?_;rintro e w' ⟨rfl,rfl⟩);go_ret;exact⟨rfl,rfl⟩
theorem values_any (w:World) (N:Int) (sv:Value) (a:Option Addr) (cap:Nat) (y:List Int) (hN0:1≤N) (hN1:N≤128) (hl:y.length≤9223372036854775807) (h:IntsAt w a y) :
 Calls prog 247 #[.agg #[.int .i64 N,sv],.slice a y.length cap] w fun e w'=>e=.returned (.bool (valuesB N y))∧Below w.heap.size w w':=by
 by_cases h1:(y.length:Int)=N
 ·have h1b:((y.length:Int)==N)=true:=by simpa using h1
  have hlt:0<y.length:=by omega
  obtain⟨b,off,rfl,hbl,hc⟩:=h.at hlt;have hg:y.getD 0 0=y[0]:=i5 y 0 hlt;obtain⟨v,hv⟩:=ag (y[0]);rw[hv] at hc hg;rw[Nat.add_zero] at hc
  by_cases h2:v=0
  ·have h2b:(v==0)=true:=by simpa using h2
   have hq:=cF (w.alloc (.cells #[.int .i64 N,sv] 61)) (some ⟨b,off,none⟩) cap y 282 #[] (fun v=>!bm v (-400000000) 400000000) hl (h.alloc _) (fun k hk W hb=>(values1_any W y[k]).mono fun _ _ ⟨he,hw⟩=>⟨he,hw▸Below.refl _ _⟩) (enters_of func282 (by kernel_rfl) rfl)
   have hval:valuesB N y=!(y.any fun v=>!bm v (-400000000) 400000000):=by unfold valuesB;rw[hg,h1];simp[h2]
   obtain⟨r,hr⟩:=ag (y.any fun v=>!bm v (-400000000) 400000000);rw[hr] at hq hval;have HQ:=aa hq;have HV:=aa hval;clear hq hval hr hg hv h1 h2 h;go_enter func247,ntmps247;go_wp2_with fail;refine HQ.out.mono ?_;rintro e w1 ⟨rfl,hb1⟩;go_wp2_with fail;go_ret;exact⟨by rw[HV.out];rfl,(aD).trans (hb1.mono (by simp))⟩
  ·have h2b:(v==0)=false:=by simpa using h2
   have hval:valuesB N y=false:=by unfold valuesB;rw[hg];simp[h2]
   have HV:=aa hval;clear hval hg hv h1 h2 h;go_enter func247,ntmps247;go_wp2_with fail;go_ret;exact⟨by rw[HV.out];rfl,by go_grown⟩
 ·have h1b:((y.length:Int)==N)=false:=by simpa using h1
  have hval:valuesB N y=false:=by unfold valuesB;simp[h1]
  have HV:=aa hval;clear hval h1 h;go_enter func247,ntmps247;go_wp2_with fail;go_ret;exact⟨by rw[HV.out];rfl,by go_grown⟩
theorem kept1_any (w:World) (b:Bd) (N bl:Nat) (a:Option Addr) (cap:Nat) (y:List Int) (hb:b.valid N) (hN:y.length=N) (_hN1:N≤128) (hv:∀v∈y,-400000000≤v∧v≤400000000) (h:IntsAt w a y) (hc:w.cell? ⟨bl,0,none⟩=some (.slice a y.length cap)) (hbl:bl<w.heap.size) :
 Calls prog 249 #[b.val,.pointer (some ⟨bl,0,none⟩)] w fun e w'=>e=.returned (.bool (keptB y b))∧Below w.heap.size w w':=by
 obtain⟨v1,v2,v3,v4,v5,v6⟩:=hb;obtain⟨ys,yd,ym,yr⟩:=b;simp only at v1 v2 v3 v4 v5 v6;obtain⟨si,rfl⟩:=Int.eq_ofNat_of_zero_le v1;obtain⟨di,rfl⟩:=Int.eq_ofNat_of_zero_le v3
 have hs:si<y.length:=by omega
 have hd:di<y.length:=by omega
 obtain⟨b,off,rfl,hbw,hcs⟩:=h.at hs;obtain⟨b',off',e',_,hcd⟩:=h.at hd;cases e';have q1:=hv y[si] (List.getElem_mem _);have q2:=hv y[di] (List.getElem_mem _)
 have hkb:keptB y ⟨si,di,ym,yr⟩=decide (ym<y[di]-y[si]):=by
  unfold keptB az;rw[decide_eq_decide];simp only[Int.toNat_natCast];rw[i5 y 0 hs,i5 y 0 hd]
 obtain⟨x,hx⟩:=ag (y[si]);obtain⟨z,hz⟩:=ag (y[di]);rw[hx,hz] at hkb;rw[hx] at hcs q1;rw[hz] at hcd q2
 have s0:(si:Int)<y.length:=by omega
 have d0:(di:Int)<y.length:=by omega
 have hw1:IntKind.i64.wrap (z-x)=z-x:=IntWalk.i64_in _ (by omega);have HK:=aa hkb
 have hbl1:bl<w.heap.size+1:=by omega
 clear hkb hx hz hN h hv hbw;unfold Bd.val;go_enter func249,ntmps249;go_wp2_with fail
 go_quiet (fail)
 go_wp2_with fail;go_ret;exact⟨by rw[HK.out];rfl,(aD).trans (aA _ _)⟩
theorem kept_any (w:World) (N:Int) (a:Option Addr) (cap:Nat) (bs:List Bd) (a2:Option Addr) (cap2:Nat) (y:List Int) (hN:bK N) (hl:bs.length≤9223372036854775807) (hl2:y.length≤9223372036854775807) (h:BoundsAt w a bs) (h2:IntsAt w a2 y) :
 Calls prog 198 #[.agg #[.int .i64 N,.slice a bs.length cap],.slice a2 y.length cap2] w fun e w'=>e=.returned (.tuple #[.int .i64 (keptE N bs y).1,.bool (keptE N bs y).2.1,.int .i64 (keptE N bs y).2.2])∧Below w.heap.size w w':=by
 obtain⟨W0,hW0⟩:∃W0,W0=(w.alloc (.cells #[.int .i64 N,.slice a bs.length cap] 61)).alloc (.cells #[.slice a2 y.length cap2] 52):=⟨_,rfl⟩
 have b0:Below w.heap.size w W0:=by rw[hW0];exact(aD).alloc (by simp) _
 have x0:W0.heap[w.heap.size]?=some (.cells #[.int .i64 N,.slice a bs.length cap] 61 (0,0)):=by rw[hW0,Below.heap_alloc _ _ _ (by simp),heap_alloc_new]
 have x1:W0.heap[w.heap.size+1]?=some (.cells #[.slice a2 y.length cap2] 52 (0,0)):=by rw[hW0,af _ _ _ (by simp)]
 have hck:=fO W0 N a cap bs hN hl (h.below b0 (Nat.le_refl _))
 by_cases hc:aO N bs=0
 ·obtain⟨n0,n1,n2,nv⟩:=cR hc
  rw[hc] at hck;have HCK:=aa hck;have H:=aa h;have H2:=aa h2;have X0:=aa x0;have X1:=aa x1;have B0:=aa b0;have HW:=aa hW0;have HC:=aa hc;have NV:=aa nv;clear hck h h2 x0 x1 b0 hW0 hc nv hN;go_enter func198,ntmps198;go_upto_region 1 with fail;rw[←HW.out];have e0:W0.cell? ⟨w.heap.size,0,none⟩=some (.int .i64 N):=bu X0.out rfl;have e1:W0.cell? ⟨w.heap.size,1,none⟩=some (.slice a bs.length cap):=bu X0.out rfl;go_wp2_with fail;refine HCK.out.mono ?_;rintro e w1 ⟨rfl,hb1⟩;have y0:=ac hb1 (lt_of_block X0.out) X0.out;have y1:=ac hb1 (lt_of_block X1.out) X1.out;have B1:=bB B0.out hb1;have hva:=values_any w1 N (.slice a bs.length cap) a2 cap2 y n0 n1 hl2 (H2.out.below B1 (Nat.le_refl _));have Y0:=aa y0;have Y1:=aa y1;have HB1:=aa B1;have HVA:=aa hva;have f0:w1.cell? ⟨w.heap.size,0,none⟩=some (.int .i64 N):=bu Y0.out rfl;have f1:w1.cell? ⟨w.heap.size,1,none⟩=some (.slice a bs.length cap):=bu Y0.out rfl;have f2:w1.cell? ⟨w.heap.size+1,0,none⟩=some (.slice a2 y.length cap2):=cell_of_one Y1.out;clear y0 y1 B1 hb1 hva e0 e1;go_wp2_with fail;refine HVA.out.mono ?_;rintro e w2 ⟨rfl,hb2⟩;have z0:=ac hb2 (lt_of_block Y0.out) Y0.out;have z1:=ac hb2 (lt_of_block Y1.out) Y1.out;have B2:=bB HB1.out hb2;have Z0:=aa z0;have Z1:=aa z1;have HB2:=aa B2;clear z0 z1 B2 hb2 f0 f1 f2
  cases hvb:valuesB N y with
  | false =>
    have hk:keptE N bs y=(0,false,1):=by unfold keptE;rw[if_neg (by simp[HC.out]),if_pos hvb]
    have HK:=aa hk;clear hvb hk;go_wp2_with fail;go_ret3;exact⟨by rw[HK.out];rfl,HB2.out⟩
  | true =>
    have hk:keptE N bs y=(max (bk (keptB y) bs) 0,decide (bk (keptB y) bs<0),0):=by unfold keptE;rw[if_neg (by simp[HC.out]),if_neg (by rw[hvb];simp)]
    obtain⟨R,rfl⟩:=Int.eq_ofNat_of_zero_le (show 0≤N by omega);obtain⟨q1,q2,q3⟩:=valuesB_iff.1 hvb;have e0:w2.cell? ⟨w.heap.size,0,none⟩=some (.int .i64 (R:Int)):=bu Z0.out rfl;have e1:w2.cell? ⟨w.heap.size,1,none⟩=some (.slice a bs.length cap):=bu Z0.out rfl;have l1:=lt_of_block Z1.out
    have hidx:=fD w2 a cap bs 249 #[.pointer (some ⟨w.heap.size+1,0,none⟩)] (·<w2.heap.size) (keptB y) hl (H.out.below HB2.out (Nat.le_refl _)) (fun b hb=>hb)
     (fun k hk W hkp=>kept1_any W bs[k] R (w.heap.size+1) a2 cap2 y (NV.out _ (List.getElem_mem _)).1 q1 (by omega) q3 ((H2.out.below HB2.out (Nat.le_refl _)).kept (fun b hb=>hkp.same b hb) hkp.size) ((hkp.cell (by show w.heap.size+1<_;exact l1)).trans (cell_of_one Z1.out)) (Nat.lt_of_lt_of_le l1 hkp.size))
     (enters_of func249 (by kernel_rfl) rfl)
    obtain⟨ix9Q,hix⟩:=ag (bk (keptB y) bs);rw[hix] at hidx hk;have HI:=aa hidx;have HK:=aa hk;clear hvb hk hidx hix q1 q2 q3;go_wp2_with fail;refine HI.out.mono ?_;rintro e w3 ⟨rfl,hb3⟩;have HB3:=bU HB2 hb3;clear hb3 e0 e1;go_wp2_with fail;go_ret3;exact⟨by rw[HK.out];rfl,HB3.out⟩
 ·have hk:keptE N bs y=(0,false,aO N bs):=by unfold keptE;rw[if_pos hc]
  obtain⟨c,hcc⟩:=ag (aO N bs);rw[hcc] at hk hc hck
  have hc2:(c != 0)=true:=by simpa using hc
  have HCK:=aa hck;have HK:=aa hk;have X0:=aa x0;have B0:=aa b0;have HW:=aa hW0;clear hck hk hc hcc h h2 hN x0 x1 b0 hW0;go_enter func198,ntmps198;go_upto_region 1 with fail;rw[←HW.out];have e0:W0.cell? ⟨w.heap.size,0,none⟩=some (.int .i64 N):=bu X0.out rfl;have e1:W0.cell? ⟨w.heap.size,1,none⟩=some (.slice a bs.length cap):=bu X0.out rfl;go_wp2_with fail;refine HCK.out.mono ?_;rintro e w1 ⟨rfl,hb1⟩;clear e0 e1;go_wp2_with fail;go_ret3;exact⟨by rw[HK.out];rfl,bB B0.out hb1⟩
end Go.Proofs.YtkhemfnlflbniaaGreatDoor
namespace Go.Proofs.YtkhemfnlflbniaaGreatDoor
theorem Bl.n0 {N:Nat} {bs:List Bd} (T:Bl N bs):1≤N:=by obtain⟨t,_,H⟩:=T.net;exact H.n0
theorem drw_ends {F:Fld} {l:List Rcd} (h:cX F l) (ha:bi F l=true) {y:List Int} (k:Bv F l y) {p:Nat} (h2:p<bj F):gT F l p≤y.getD p 0∧y.getD p 0≤eF F l p:=by
 have T:=zk h ha;have d:=qo T k h2 (b:=0) T.n0;have e:=qo T k (a:=0) T.n0 h2;rw[k.zero] at d e;unfold gT eF;omega
theorem drw_bd {F:Fld} {l:List Rcd} (h:cX F l) {y:List Int} (k:Bv F l y) {p:Nat} (h2:p<bj F):0≤y.getD p 0∧y.getD p 0≤100000:=by
 by_cases q:p=0
 ·subst q;rw[k.zero];omega
 ·have:=wb h (xj h k) (p:=p) (by omega) h2
  have:=drw_ends h (xj h k) k h2;omega
theorem drw_rises {F:Fld} {l:List Rcd} {y:List Int} (k:Bv F l y) {i s:Nat} (hi:i+1<F.lms.length) (hs:s<F.sts.length):y.getD (eE F (i:Int) (s:Int)).toNat 0≤y.getD (eE F ((i:Int)+1) (s:Int)).toNat 0:=by
 have m:(⟨eE F ((i:Int)+1) (s:Int),eE F (i:Int) (s:Int),0,0⟩:Bd)∈aj F l :=
  nj (List.mem_append_right _ (List.mem_flatMap.2 ⟨i,List.mem_range.2 (by omega),List.mem_map.2 ⟨s,List.mem_range.2 hs,rfl⟩⟩))
 have:=k.pot _ m;unfold az at this;dsimp at this;omega
theorem sys_mem {F:Fld} {l:List Rcd} {b:Bd}:b∈aj F l↔b∈fF F∨∃r∈l,b∈eo F r.call r.id:=by
 unfold aj Rcd.bs;rw[List.mem_append,List.mem_flatMap]
theorem pair_map {p q lo hi r:Int}:eG p q lo hi r=(eG p q lo hi 0).map fun b=>{ b with rcd:=r }:=rfl
theorem call_map (F:Fld) (c:Cll) (r:Int):eo F c r=(eo F c 0).map fun b=>{ b with rcd:=r }:=by
 unfold eo
 by_cases k1:c.kind=1
 ·rw[if_pos k1,if_pos k1];exact pair_map
 rw[if_neg k1,if_neg k1]
 by_cases k2:c.kind=2
 ·rw[if_pos k2,if_pos k2];exact pair_map
 rw[if_neg k2,if_neg k2]
 by_cases k3:c.kind=3
 ·rw[if_pos k3,if_pos k3];exact pair_map
 rw[if_neg k3,if_neg k3]
 by_cases k4:c.kind=4
 ·rw[if_pos k4,if_pos k4]
  unfold li;rw[List.map_flatMap]
  rfl
 rw[if_neg k4,if_neg k4]
 by_cases k5:c.kind=5
 ·rw[if_pos k5,if_pos k5];exact pair_map
 rw[if_neg k5,if_neg k5]
 rfl
theorem drw_calls {F:Fld} {l:List Rcd} {y:List Int}:Bv F l y↔(y.length=bj F∧y.getD 0 0=0∧(∀v∈y,-400000000≤v∧v≤400000000)∧yD y (fF F))∧∀r∈l,yD y (eo F r.call 0):=by
 constructor
 ·intro k
  refine⟨⟨k.len,k.zero,k.bd,fun b hb=>k.pot b (sys_mem.2 (.inl hb))⟩,fun r hr b hb=>?_⟩;have:({ b with rcd:=r.id }:Bd)∈aj F l:=sys_mem.2 (.inr ⟨r,hr,by rw[call_map];exact List.mem_map.2 ⟨b,hb,rfl⟩⟩);have z:=k.pot ({ b with rcd:=r.id }:Bd) this;exact z
 ·rintro⟨⟨h1,h2,h3,h4⟩,h5⟩
  refine⟨h1,h2,h3,fun b hb=>?_⟩
  rcases sys_mem.1 hb with k|⟨r,hr,k⟩
  ·exact h4 b k
  ·rw[call_map] at k
   obtain⟨c,hc,rfl⟩:=List.mem_map.1 k;exact h5 r hr c hc
theorem drw_step {F:Fld} {l:List Rcd} {y:List Int} (k:Bv F l y) {i s:Int} (hi:bZ F i=true) (hk:bZ F (i+1)=true) (hs:aY F s=true):y.getD (eX F i s) 0≤y.getD (eX F (i+1) s) 0:=by
 rw[gh] at hi hk;rw[fw] at hs;have:=drw_rises k (i:=i.toNat) (s:=s.toNat) (by omega) (by omega);rwa [Int.toNat_of_nonneg hi.1,Int.toNat_of_nonneg hs.1] at this
theorem drw_many {F:Fld} {l:List Rcd} {y:List Int} (k:Bv F l y) {s:Int} (hs:aY F s=true) {i:Int} (hi:bZ F i=true):∀n:Nat,bZ F (i+n)=true→y.getD (eX F i s) 0≤y.getD (eX F (i+n) s) 0
 | 0,_=>by simp
 | n+1,h=>by
   have h2:bZ F (i+n)=true:=by rw[gh] at *;omega
   have e:i+((n+1:Nat):Int)=i+(n:Int)+1:=by omega
   rw[e] at h ⊢;exact Int.le_trans (drw_many k hs hi n h2) (drw_step k h2 h hs)
theorem drw_up {F:Fld} {l:List Rcd} {y:List Int} (k:Bv F l y) {s i j:Int} (hs:aY F s=true) (hi:bZ F i=true) (hj:bZ F j=true) (h:i≤j):y.getD (eX F i s) 0≤y.getD (eX F j s) 0:=by
 have e:j=i+((j-i).toNat:Int):=by omega
 rw[e] at hj ⊢;exact drw_many k hs hi _ hj
theorem ends_up {F:Fld} {l:List Rcd} (h:cX F l) (ha:bi F l=true) {s i j:Int} (hs:aY F s=true) (hi:bZ F i=true) (hj:bZ F j=true) (hij:i≤j) :
 gT F l (eX F i s)≤gT F l (eX F j s)∧eF F l (eX F i s)≤eF F l (eX F j s):=by
 have L:=yS h ha;have a:=drw_up L.1 hs hi hj hij;have b:=drw_up L.2 hs hi hj hij;have p:=kh hi hs;have q:=kh hj hs;rw[lh p.2.1,lh q.2.1] at a;rw[oF p.2.1,oF q.2.1] at b;exact⟨b,a⟩
def sureB (F:Fld) (l:List Rcd) (s u:Int) (p:Par):Bool:=rf p s&&(decide ((mI F l p s).1≤u)&&decide (u+1≤(mI F l p s).2))
def mayB (F:Fld) (l:List Rcd) (s u:Int) (p:Par):Bool :=
 rf p s&&(decide (gT F l (eX F p.south s)≤u)&&decide (u<eF F l (eX F (p.south+1) s))&&decide (0<aF (bj F) (aj F l) (eX F p.south s) (eX F (p.south+1) s)))
def hasB (F:Fld) (y:List Int) (s u:Int) (p:Par):Bool:=rf p s&&(decide (y.getD (eX F p.south s) 0≤u)&&decide (u<y.getD (eX F (p.south+1) s) 0))
theorem pars_apart {F:Fld} (hf:F.check=0) {i j:Nat} (hij:i<j) (hj:j<F.prs.length) {s:Int} (h1:rf (F.prs.getD i r8) s=true) (h2:rf (F.prs.getD j r8) s=true):(F.prs.getD i r8).south≠(F.prs.getD j r8).south:=by
 intro e;have g:=(bb hf).2.2.2.2.2.2.1;unfold eV at g;rw[List.all_eq_true] at g;have k:=g j (List.mem_range.2 hj);simp only[Bool.and_eq_true,Bool.not_eq_true'] at k;have k2:=k.2;rw[List.any_eq_false] at k2
 have hm:F.prs.getD i r8∈F.prs.take j:=by
  rw[List.getD_eq_getElem?_getD,List.getElem?_eq_getElem (by omega)];exact List.mem_take_iff_getElem.2 ⟨i,by omega,rfl⟩
 have k3:=k2 _ hm;unfold nG at k3;unfold rf at h1 h2;simp only[Bool.and_eq_true,decide_eq_true_eq] at h1 h2;simp only[Bool.and_eq_true,beq_iff_eq,decide_eq_true_eq,not_and] at k3;have:=k3 e.symm;omega
theorem sure_may {F:Fld} {l:List Rcd} (h:cX F l) (ha:bi F l=true) {s u:Int} (hs:aY F s=true) {p:Par} (hp:p∈F.prs) (hsu:sureB F l s u p=true):mayB F l s u p=true:=by
 have m:=zS h.fld hp;have a:=kh m.1 hs;have b:=kh m.2 hs;unfold sureB mI at hsu;simp only[Bool.and_eq_true,decide_eq_true_eq] at hsu;unfold mayB;simp only[Bool.and_eq_true,decide_eq_true_eq];have e1:=wb h ha a.1 a.2.1;have e2:=wb h ha b.1 b.2.1;have k:=(yS h ha).1;have c1:=drw_ends h ha k a.2.1;have c2:=drw_ends h ha k b.2.1;have d:=qo (zk h ha) k a.2.1 b.2.1;refine⟨hsu.1,⟨by omega,by omega⟩,by omega⟩
theorem sure_alone {F:Fld} {l:List Rcd} (h:cX F l) (ha:bi F l=true) {s u:Int} (hs:aY F s=true) {i j:Nat} (hij:i≠j) (hi:i<F.prs.length) (hj:j<F.prs.length) (hsu:sureB F l s u (F.prs.getD i r8)=true):mayB F l s u (F.prs.getD j r8)=false:=by
 cases hm:mayB F l s u (F.prs.getD j r8) with
 | false=>rfl
 | true =>
   exfalso
   have pi:F.prs.getD i r8∈F.prs:=by rw[List.getD_eq_getElem?_getD,List.getElem?_eq_getElem hi];exact List.getElem_mem hi
   have pj9Q:F.prs.getD j r8∈F.prs:=by rw[List.getD_eq_getElem?_getD,List.getElem?_eq_getElem hj];exact List.getElem_mem hj
   have m1:=zS h.fld pi;have m2:=zS h.fld pj9Q;unfold sureB mI at hsu;simp only[Bool.and_eq_true,decide_eq_true_eq] at hsu;unfold mayB at hm;simp only[Bool.and_eq_true,decide_eq_true_eq] at hm
   have ne:(F.prs.getD i r8).south≠(F.prs.getD j r8).south:=by
    rcases Nat.lt_or_gt_of_ne hij with q|q
    ·exact pars_apart h.fld q hj hsu.1 hm.1
    ·exact fun e=>pars_apart h.fld q hi hm.1 hsu.1 e.symm
   rcases Int.lt_or_gt_of_ne ne with q|q
   ·have:=ends_up h ha hs m1.2 m2.1 (by omega)
    omega
   ·have:=ends_up h ha hs m2.2 m1.1 (by omega)
    omega
theorem has_may {F:Fld} {l:List Rcd} (h:cX F l) {y:List Int} (k:Bv F l y) {s u:Int} (hs:aY F s=true) {p:Par} (hp:p∈F.prs) (hy:hasB F y s u p=true):mayB F l s u p=true:=by
 have ha:=xj h k;have m:=zS h.fld hp;have a:=kh m.1 hs;have b:=kh m.2 hs;unfold hasB at hy;simp only[Bool.and_eq_true,decide_eq_true_eq] at hy;unfold mayB;simp only[Bool.and_eq_true,decide_eq_true_eq];have c1:=drw_ends h ha k a.2.1;have c2:=drw_ends h ha k b.2.1;have d:=qo (zk h ha) k a.2.1 b.2.1;refine⟨hy.1,⟨by omega,by omega⟩,by omega⟩
theorem sure_has {F:Fld} {l:List Rcd} (h:cX F l) {y:List Int} (k:Bv F l y) {s u:Int} (hs:aY F s=true) {p:Par} (hp:p∈F.prs) (hsu:sureB F l s u p=true):hasB F y s u p=true:=by
 have ha:=xj h k;have m:=zS h.fld hp;have a:=kh m.1 hs;have b:=kh m.2 hs;unfold sureB mI at hsu;simp only[Bool.and_eq_true,decide_eq_true_eq] at hsu;unfold hasB;simp only[Bool.and_eq_true,decide_eq_true_eq];have c1:=drw_ends h ha k a.2.1;have c2:=drw_ends h ha k b.2.1;refine⟨hsu.1,by omega,by omega⟩
theorem distance_eq {F:Fld} {l:List Rcd} (h:cX F l) (ha:bi F l=true) {a b:Nat} (h1:a<bj F) (h2:b<bj F) :
 distanceP (bj F) (aj F l) a b=(aF (bj F) (aj F l) a b,true,0):=by
 have T:=zk h ha
 have k:bc (bj F) (aj F l) [(a:Int),(b:Int)]=0:=by
  rw[kV h (by simp;omega),if_pos ha]
 unfold distanceP;rw[if_pos k];have e1:=T.fin a b h1 h2;unfold aC at e1;simp only[Int.toNat_natCast];unfold nV nB;rw[if_neg (by omega),decide_eq_true (by omega)]
theorem last_eq {F:Fld} {l:List Rcd} (h:cX F l) (ha:bi F l=true):greatestE (bj F) (aj F l)=(qa (bj F) (aj F l),0)∧leastE (bj F) (aj F l)=(xC (bj F) (aj F l),0):=by
 have T:=zk h ha
 have k:bc (bj F) (aj F l) []=0:=by
  rw[kV h (by simp),if_pos ha]
 have n1:¬((List.range (bj F:Int).toNat).any fun p=>!nB (aF (bj F:Int).toNat (aj F l) 0 p))=true:=by
  simp only[Int.toNat_natCast,List.any_eq_true,List.mem_range,not_exists,not_and];intro p hp;have:=T.fin 0 p T.n0 hp;unfold aC at this;unfold nB;simp only[Bool.not_eq_true',decide_eq_false_iff_not];omega
 have n2:¬((List.range (bj F:Int).toNat).any fun p=>!nB (aF (bj F:Int).toNat (aj F l) p 0))=true:=by
  simp only[Int.toNat_natCast,List.any_eq_true,List.mem_range,not_exists,not_and];intro p hp;have:=T.fin p 0 hp T.n0;unfold aC at this;unfold nB;simp only[Bool.not_eq_true',decide_eq_false_iff_not];omega
 unfold greatestE leastE extremeE
 constructor
 ·rw[if_pos k,if_neg n1];rfl
 ·rw[if_pos k,if_neg n2];rfl
theorem kept_eq {F:Fld} {l:List Rcd} (h:cX F l) (y:List Int):((keptE (bj F) (aj F l) y).2.1&&decide ((keptE (bj F) (aj F l) y).2.2=0))=true↔Bv F l y:=by
 rw[Bool.and_eq_true,decide_eq_true_eq]
 constructor
 ·intro k
  exact(keptE_iff (ez h)).1 k.1
 ·intro k
  have:=(keptE_iff (ez h)).2 k;exact⟨this,(keptE_err (ez h) this).1⟩
theorem flag_zero {b:Bool}:bq b=0↔b=true:=by cases b<;>simp[bq]
def whoseI (F:Fld) (l:List Rcd) (s u:Int):Option Nat:=(List.range F.prs.length).find? fun i=>sureB F l s u (cN F i)
def mayI (F:Fld) (l:List Rcd) (s u:Int):List Nat:=(List.range F.prs.length).filter fun i=>mayB F l s u (cN F i)
def hasI (F:Fld) (y:List Int) (s u:Int):Option Nat:=(List.range F.prs.length).find? fun i=>hasB F y s u (cN F i)
theorem find_in {n:Nat} {f:Nat→Bool} {i:Nat} (h:(List.range n).find? f=some i):i<n∧f i=true :=
 ⟨List.mem_range.1 (List.mem_of_find?_eq_some h),List.find?_some h⟩
theorem find_none {n:Nat} {f:Nat→Bool} (h:(List.range n).find? f=none) {i:Nat} (hi:i<n):f i=false:=by
 rw[List.find?_eq_none] at h;simpa using h i (List.mem_range.2 hi)
theorem filter_one {n:Nat} {f:Nat→Bool} {p:Nat} (hp:p<n) (h:f p=true) (ho:∀i,i<n→f i=true→i=p):(List.range n).filter f=[p]:=by
 have e:(List.range n).filter f=(List.range n).filter fun i=>decide (i=p):=List.filter_congr fun i hi=>by
  rw[List.mem_range] at hi;rw[Bool.eq_iff_iff,decide_eq_true_eq];exact⟨ho i hi,fun q=>by rw[q];exact h⟩
 rw[e];clear e ho
 induction n with
 | zero=>omega
 | succ n ih =>
   rw[List.range_succ,List.filter_append]
   by_cases q:p=n
   ·subst q
    have:(List.range p).filter (fun i=>decide (i=p))=[]:=List.filter_eq_nil_iff.2 fun i hi=>by
     rw[List.mem_range] at hi;rw[decide_eq_true_eq];omega
    rw[this];simp
   ·rw[ih (by omega)]
    have:¬n=p:=fun e=>q e.symm
    simp[this]
theorem par_mem {F:Fld} {i:Nat} (h:i<F.prs.length):cN F i∈F.prs:=by unfold cN;rw[List.getD_eq_getElem?_getD,List.getElem?_eq_getElem h];exact List.getElem_mem h
theorem owned_one {F:Fld} {l:List Rcd} (h:cX F l) (ha:bi F l=true) {s u:Int} (hs:aY F s=true) {p:Nat} (hw:whoseI F l s u=some p):p<F.prs.length∧mayI F l s u=[p]∧sureB F l s u (cN F p)=true:=by
 have k:=find_in hw;refine⟨k.1,filter_one k.1 (sure_may h ha hs (par_mem k.1) k.2) fun i hi hm=>?_,k.2⟩
 apply Classical.byContradiction
 intro q;have:=sure_alone h ha hs (i:=p) (j:=i) (fun e=>q e.symm) k.1 hi k.2;unfold cN at hm;rw[this] at hm;cases hm
theorem owned_drw {F:Fld} {l:List Rcd} (h:cX F l) {y:List Int} (k:Bv F l y) {s u:Int} (hs:aY F s=true) :
 (∀q,hasI F y s u=some q→q∈mayI F l s u)∧∀p,whoseI F l s u=some p→hasI F y s u=some p:=by
 have ha:=xj h k
 have one:∀q,hasI F y s u=some q→q∈mayI F l s u:=fun q hq=>by
  have f:=find_in hq;exact List.mem_filter.2 ⟨List.mem_range.2 f.1,has_may h k hs (par_mem f.1) f.2⟩
 refine⟨one,fun p hp=>?_⟩;have o:=owned_one h ha hs hp;have hb:=sure_has h k hs (par_mem o.1) o.2.2
 cases e:hasI F y s u with
 | none=>rw[find_none e o.1] at hb;cases hb
 | some q =>
   have:=one q e;rw[o.2.1,List.mem_singleton] at this;rw[this]
theorem tget_dist {N:Nat} {bs:List Bd} {t:List Int} (ht:aG N bs=some t) {a:Nat} (b:Nat) (ha:a<N):tget (tableP N t bs) a b=aF N bs a b:=by
 unfold tget aF;rw[tableP_get N t bs ha,eB ht]
end Go.Proofs.YtkhemfnlflbniaaGreatDoor
namespace Go.Proofs.YtkhemfnlflbniaaGreatDoor
open Go Go.RowKit Go.Shelf Go.Proofs.Tryz
theorem extreme_high (w:World) (N:Int) (a:Option Addr) (cap:Nat) (bs:List Bd) (hN:bK N) (hl:bs.length≤9223372036854775807) (h:BoundsAt w a bs) :
 Calls prog 189 #[.agg #[.int .i64 N,.slice a bs.length cap],.string ⟨#[104,105,103,104]⟩] w fun e w'=>iN (greatestE N bs).1 (greatestE N bs).2 w.heap.size e w'∧Below w.heap.size w w':=by
 have H:=aa h;have HN:=aa hN;clear h hN;have hB0:Below w.heap.size w (w.alloc (.cells #[.int .i64 N,.slice a bs.length cap] 61)):=aD;have hx0:(w.alloc (.cells #[.int .i64 N,.slice a bs.length cap] 61)).heap[w.heap.size]?=some (.cells #[.int .i64 N,.slice a bs.length cap] 61 (0,0)):=heap_alloc_new _ _
 have hask:Calls prog 143 #[.agg #[.int .i64 N,.slice a bs.length cap],.slice none 0 0] (w.alloc (.cells #[.int .i64 N,.slice a bs.length cap] 61)) _ :=
  lI _ N a cap bs none 0 [] HN.out hl (by simp) (H.out.alloc _) (.inl rfl)
 have X0:=aa hx0;clear hx0
 by_cases he:bc N bs []=0
 ·obtain⟨R,t,rfl,ht,HO⟩:=asked0 he
  have hE:greatestE R bs=if(List.range R).any (fun p=>!nB (aF R bs 0 p))=true then([],5) else(qa R bs,0):=by
   unfold greatestE extremeE;rw[if_pos he];simp only[Int.toNat_natCast]
  have hn0:=HO.n0;have hn1:=HO.n1
  have htg:=fun(p q:Nat) (hp:p<R)=>tget_dist ht q hp
  have htl:=tableP_length R t bs
  have hbd:∀p q,p<R→q<R→-1000000000000000≤aF R bs p q:=fun p q hp hq=>by
   have:=HO.row_bd hp hq
   unfold aF;rw[eB ht]
   omega
  have hrl:∀r∈tableP R t bs,r.length=128:=by
   intro r hr;simp only[tableP,List.mem_map,List.mem_range] at hr;obtain⟨q,hq,rfl⟩:=hr;exact(HO.row hq).1
  have HE:=aa hE;have HA:=aa hask;have HEE:=aa he;have HT:=aa ht;have HTG:=aa htg;have HTL:=aa htl;have HRL:=aa hrl;have HBD:=aa hbd;clear hE hask he ht htg htl hrl hbd;go_enter func189,ntmps189;go_wp2_with fail;refine HA.out.mono ?_;rintro e w1 ⟨hp,hb1⟩;unfold cB at hp;rw[if_pos HEE.out] at hp;obtain⟨bn,t',ht',rfl,hbn,hcell⟩:=hp
  have htt:t'=t:=by have:=HT.out;rw[ht'] at this;exact Option.some.inj this
  subst htt;have B1:=bB hB0 hb1;have htab:=table_any w1 bn R a cap bs t' HO (H.out.below B1 (Nat.le_refl _)) hcell;have x1:=ac hb1 (by simp) X0.out;have HTAB:=aa htab;have HB1:=aa B1;have X1:=aa x1;clear htab hcell ht' hb1 B1 hbn x1;go_wp2_with fail;refine HTAB.out.mono ?_;rintro e w2 ⟨v,rfl,hb2,hown⟩;obtain⟨R',hR'⟩:∃R',R=R'+1:=⟨R-1,by omega⟩;have hown':=hown;rw[hR'] at hown';obtain⟨g,cp,rfl⟩:=ownsRow_succ hown';rw[←hR'] at hown;obtain⟨hra,hgl⟩:=fT hown HRL.out;have x2:=ac hb2 (lt_of_block X1.out) X1.out;have HRA:=aa hra;have HB2:=bU HB1 hb2;have X2:=aa x2;have e0:w2.cell? ⟨w.heap.size,0,none⟩=some (.int .i64 (R:Int)):=bu x2 rfl;rw[←hR'];clear hra hown hown' hb2 x2 hR';go_wp2_with fail;clear e0
  go_loopw [9,25] (fun v9 i wr=>∃k:Nat,k≤R∧i=.int .i64 k∧Hid (∀p,p<k→nB (aF R bs 0 p)=true)∧Hid (wr.ownsRow w2.heap.size 3 1 v9 ((List.range k).map (fun p:Nat=>nV (aF R bs 0 p))).length (ay ((List.range k).map (fun p:Nat=>nV (aF R bs 0 p)))))∧Hid (Below w2.heap.size w2 wr)) (fun _ i _=>R-(intOf i).toNat)
  case atStart=>exact⟨0,by omega,rfl,aa (fun p hp=>by omega),aa (World.ownsRow_nil _ _ _ _),aa (Below.refl _ _)⟩
  case round =>
   obtain⟨k,hk,rfl,hall,hown,hb⟩:=hrel
   by_cases hlt:k<R
   ·have hra2:=HRA.out.below hb.out hgl
    have c0:=hra2 0 k (by rw[HTL.out];omega) (by omega);have c1:=hra2 k 0 (by rw[HTL.out];omega) (by omega);have g0:=HTG.out 0 k (by omega);have g1:=HTG.out k 0 (by omega);unfold tget at g0 g1;rw[g0,Nat.zero_mul,Nat.zero_add] at c0;rw[g1,Nat.add_zero] at c1;clear g0 g1;have hb0:=HBD.out 0 k (by omega) hlt;have hb9:=HBD.out k 0 hlt (by omega);obtain⟨v1,hv1⟩:=ag (aF R bs 0 k);obtain⟨v2,hv2⟩:=ag (aF R bs k 0);rw[hv1] at c0 hb0;rw[hv2] at c1 hb9;have hgw:g<wr.heap.size:=Nat.lt_of_lt_of_le hgl hb.out.size
    have k128:(k:Int)<128:=by omega
    have k128':k<128:=by omega
    have kR9Q:(k:Int)<(R:Int):=by omega
    have R0:(0:Int)<(R:Int):=by omega
    have R0':0<R:=by omega
    have HV1:=aa hv1;have HV2:=aa hv2
    have hsn:(List.range (k+1)).map (fun p:Nat=>nV (aF R bs 0 p))=(List.range k).map (fun p:Nat=>nV (aF R bs 0 p))++[pA v1]:=by
     rw[List.range_succ,List.map_append];simp only[List.map_cons,List.map_nil]
     rw[HV1.out];rfl
    have HSN:=aa hsn;obtain⟨nb,hnb⟩:=ag (ud v1)
    have hnb2:nB (aF R bs 0 k)=nb:=by rw[HV1.out];exact hnb
    have HNB:=aa hnb2;obtain⟨nv,hnv⟩:=ag (pA v1);rw[hnv] at HSN;clear hv1 hv2 hsn hnb2 hra2;obtain⟨wq,rfl⟩:∃y:World,y=wr:=⟨wr,rfl⟩
    have lh9Q:(Instr.lookup 242 (.map (some wq.heap.size)) (.string ⟨#[104,105,103,104]⟩) false).run prog (wq.alloc d7).drew=.ok (.func (.func 267) #[] #[]) (wq.alloc d7).drew :=
     gw (r:=wq.heap.size) (i:=0) underlying242 underlying9 (af wq d7 _ rfl) (by rfl)
    go_wp2_with fail
    go_cut [11,12] (fun s11 s12 wx=>s11=.int .i64 nv∧s12=.bool nb∧Hid (Below wq.heap.size wq wx))
    case first =>
     have ba:Below wq.heap.size wq (wq.alloc d7).drew:=(aD).drew;have d0:=(ba.cell (p:=⟨g,k,none⟩) hgw).trans c0;have d1:=(ba.cell (p:=⟨g,k*128,none⟩) hgw).trans c1
     go_region_held3 (fun V=>V.cell? ⟨g,k,none⟩=some (.int .i64 v1)∧V.cell? ⟨g,k*128,none⟩=some (.int .i64 v2))
      (first|(exact⟨u0,u1⟩)|(exact⟨d0,d1⟩)|(exact⟨c0,c1⟩)|go_keep)
      (first
       | (go_at_call 223;refine(tZ _).mono ?_;rintro e W2 ⟨rfl,rfl⟩)
       | (go_at_call 267;refine(zP _ _ _).mono ?_;rintro e W3 ⟨rfl,h1⟩;(rw[hnb,hnv]);(have h2:Below wq.heap.size wq W3:=ba.trans (h1.mono (by simp)));(have u0:=(h2.cell (p:=⟨g,k,none⟩) hgw).trans c0);(have u1:=(h2.cell (p:=⟨g,k*128,none⟩) hgw).trans c1);(have HH:=aa h2);clear h1 h2))
     all_goals (go_wp2_with fail;go_meet)
     all_goals exact⟨rfl,rfl,HH⟩
    case rest =>
     obtain⟨rfl,rfl,hbx⟩:=hcut;obtain⟨wf,rfl⟩:∃x:World,x=wc:=⟨wc,rfl⟩;have hbf:=bU hb hbx.out;have hof:=av hown.out (fun q hq=>hbx.out.block q (o5 hown.out hq));have HOF:=aa hof;clear lh9Q c0 c1 hof hnb hnv
     cases nb with
     | false =>
       go_wp2_with fail;refine bodyPost_ret (v:=.tuple #[.slice none 0 0,.int .i64 5]) (by simp[results,results189,go_sem]) rfl ⟨?_,bB HB2.out hbf.out⟩;have hany:(List.range R).any (fun p=>!nB (aF R bs 0 p))=true:=List.any_eq_true.2 ⟨k,List.mem_range.2 hlt,by rw[HNB.out];rfl⟩;rw[show greatestE R bs=([],5) by rw[HE.out,if_pos hany]];exact⟨_,rfl,World.ownsRow_nil _ _ _ _⟩
     | true =>
       have ba:Below wf.heap.size wf (wf.alloc (.cells #[.int .i64 nv] 3)):=aD;obtain⟨v',W',hr',ho',hb'⟩:=mH (wf.alloc (.cells #[.int .i64 nv] 3)) w2.heap.size u9 ((List.range k).map (fun p:Nat=>nV (aF R bs 0 p))) (World.ownsRow.alloc HOF.out _) (some ⟨wf.heap.size,0,none⟩) 1 [nv] (tk wf nv) (by simp;omega) (by simp) (Nat.le_trans hbf.out.size ba.size) 52;have HR':=aa hr';have HO':=aa ho';have HB':=aa (hbf.out.trans ((ba.mono hbf.out.size).trans hb'));clear hr' ho' hb' ba;go_wp2_with (at_builtin;refine aN rfl (s:=.tmp 48) (x:=.tmp 50) (t:=52) rfl rfl rfl HR'.out ?_);go_roundw
       case rel =>
        refine⟨k+1,by omega,by go_num,aa (fun p hp=>?_),aa (by rw[HSN.out];exact HO'.out),HB'⟩
        by_cases e:p=k
        ·subst e;exact HNB.out
        ·exact hall.out p (by omega)
       case measure=>simp[intOf];omega
   ·obtain rfl:k=R:=by omega
    have hmap:(List.range k).map (fun p:Nat=>nV (aF k bs 0 p))=qa k bs:=by
     unfold qa
     exact List.map_congr_left fun p hp=>by rw[nV_near (by have q:=hall.out p (List.mem_range.1 hp);unfold nB at q;unfold aC;exact of_decide_eq_true q)]
    have hany:(List.range k).any (fun p=>!nB (aF k bs 0 p))=false:=by
     rw[List.any_eq_false];intro p hp
     rw[hall.out p (List.mem_range.1 hp)];simp
    rw[hmap] at hown;have HAN:=aa hany;have HOW:=aa (bF hown.out HB2.out.size);obtain⟨o99Q,c9,e9,_,_⟩:=fU hown.out;subst e9;have HBF:=bU HB2 hb.out;clear hmap hany hown hall hb;go_wp2_with fail;refine bodyPost_ret (v:=.tuple #[.slice o99Q (qa k bs).length c9,.int .i64 0]) (by simp[results,results189,go_sem]) rfl ⟨?_,HBF.out⟩;rw[show greatestE k bs=(qa k bs,0) by rw[HE.out,if_neg (by rw[HAN.out];simp)]];exact⟨_,rfl,HOW.out⟩
 ·have hE:greatestE N bs=([],bc N bs []):=by unfold greatestE extremeE;rw[if_neg he]
  obtain⟨c,hc⟩:=ag (bc N bs [])
  have hc1:(c==0)=false:=by rw[←hc];simpa using he
  have hc2:(c != 0)=true:=by rw[←hc];simpa using he
  have HC:=aa hc;have HD:=aa hE;have HEE:=aa he;have HA:=aa hask;clear hE he hc hask;go_enter func189,ntmps189;go_wp2_with fail;refine HA.out.mono ?_;rintro e w1 ⟨hp,hb1⟩;unfold cB at hp;rw[if_neg HEE.out,HC.out] at hp;subst hp;go_wp2_with fail;refine bodyPost_ret (v:=.tuple #[.slice none 0 0,.int .i64 c]) (by simp[results,results189,go_sem]) rfl ⟨?_,bB hB0 hb1⟩;rw[HD.out,HC.out];exact⟨_,rfl,World.ownsRow_nil _ _ _ _⟩
theorem extreme_low (w:World) (N:Int) (a:Option Addr) (cap:Nat) (bs:List Bd) (hN:bK N) (hl:bs.length≤9223372036854775807) (h:BoundsAt w a bs) :
 Calls prog 189 #[.agg #[.int .i64 N,.slice a bs.length cap],.string ⟨#[108,111,119]⟩] w fun e w'=>iN (leastE N bs).1 (leastE N bs).2 w.heap.size e w'∧Below w.heap.size w w':=by
 have H:=aa h;have HN:=aa hN;clear h hN;have hB0:Below w.heap.size w (w.alloc (.cells #[.int .i64 N,.slice a bs.length cap] 61)):=aD;have hx0:(w.alloc (.cells #[.int .i64 N,.slice a bs.length cap] 61)).heap[w.heap.size]?=some (.cells #[.int .i64 N,.slice a bs.length cap] 61 (0,0)):=heap_alloc_new _ _
 have hask:Calls prog 143 #[.agg #[.int .i64 N,.slice a bs.length cap],.slice none 0 0] (w.alloc (.cells #[.int .i64 N,.slice a bs.length cap] 61)) _ :=
  lI _ N a cap bs none 0 [] HN.out hl (by simp) (H.out.alloc _) (.inl rfl)
 have X0:=aa hx0;clear hx0
 by_cases he:bc N bs []=0
 ·obtain⟨R,t,rfl,ht,HO⟩:=asked0 he
  have hE:leastE R bs=if(List.range R).any (fun p=>!nB (aF R bs p 0))=true then([],5) else(xC R bs,0):=by
   unfold leastE extremeE;rw[if_pos he];simp only[Int.toNat_natCast]
  have hn0:=HO.n0;have hn1:=HO.n1
  have htg:=fun(p q:Nat) (hp:p<R)=>tget_dist ht q hp
  have htl:=tableP_length R t bs
  have hbd:∀p q,p<R→q<R→-1000000000000000≤aF R bs p q:=fun p q hp hq=>by
   have:=HO.row_bd hp hq
   unfold aF;rw[eB ht]
   omega
  have hrl:∀r∈tableP R t bs,r.length=128:=by
   intro r hr;simp only[tableP,List.mem_map,List.mem_range] at hr;obtain⟨q,hq,rfl⟩:=hr;exact(HO.row hq).1
  have HE:=aa hE;have HA:=aa hask;have HEE:=aa he;have HT:=aa ht;have HTG:=aa htg;have HTL:=aa htl;have HRL:=aa hrl;have HBD:=aa hbd;clear hE hask he ht htg htl hrl hbd;go_enter func189,ntmps189;go_wp2_with fail;refine HA.out.mono ?_;rintro e w1 ⟨hp,hb1⟩;unfold cB at hp;rw[if_pos HEE.out] at hp;obtain⟨bn,t',ht',rfl,hbn,hcell⟩:=hp
  have htt:t'=t:=by have:=HT.out;rw[ht'] at this;exact Option.some.inj this
  subst htt;have B1:=bB hB0 hb1;have htab:=table_any w1 bn R a cap bs t' HO (H.out.below B1 (Nat.le_refl _)) hcell;have x1:=ac hb1 (by simp) X0.out;have HTAB:=aa htab;have HB1:=aa B1;have X1:=aa x1;clear htab hcell ht' hb1 B1 hbn x1;go_wp2_with fail;refine HTAB.out.mono ?_;rintro e w2 ⟨v,rfl,hb2,hown⟩;obtain⟨R',hR'⟩:∃R',R=R'+1:=⟨R-1,by omega⟩;have hown':=hown;rw[hR'] at hown';obtain⟨g,cp,rfl⟩:=ownsRow_succ hown';rw[←hR'] at hown;obtain⟨hra,hgl⟩:=fT hown HRL.out;have x2:=ac hb2 (lt_of_block X1.out) X1.out;have HRA:=aa hra;have HB2:=bU HB1 hb2;have X2:=aa x2;have e0:w2.cell? ⟨w.heap.size,0,none⟩=some (.int .i64 (R:Int)):=bu x2 rfl;rw[←hR'];clear hra hown hown' hb2 x2 hR';go_wp2_with fail;clear e0
  go_loopw [9,25] (fun v9 i wr=>∃k:Nat,k≤R∧i=.int .i64 k∧Hid (∀p,p<k→nB (aF R bs p 0)=true)∧Hid (wr.ownsRow w2.heap.size 3 1 v9 ((List.range k).map (fun p:Nat=>-nV (aF R bs p 0))).length (ay ((List.range k).map (fun p:Nat=>-nV (aF R bs p 0)))))∧Hid (Below w2.heap.size w2 wr)) (fun _ i _=>R-(intOf i).toNat)
  case atStart=>exact⟨0,by omega,rfl,aa (fun p hp=>by omega),aa (World.ownsRow_nil _ _ _ _),aa (Below.refl _ _)⟩
  case round =>
   obtain⟨k,hk,rfl,hall,hown,hb⟩:=hrel
   by_cases hlt:k<R
   ·have hra2:=HRA.out.below hb.out hgl
    have c0:=hra2 0 k (by rw[HTL.out];omega) (by omega);have c1:=hra2 k 0 (by rw[HTL.out];omega) (by omega);have g0:=HTG.out 0 k (by omega);have g1:=HTG.out k 0 (by omega);unfold tget at g0 g1;rw[g0,Nat.zero_mul,Nat.zero_add] at c0;rw[g1,Nat.add_zero] at c1;clear g0 g1;have hb0:=HBD.out 0 k (by omega) hlt;have hb9:=HBD.out k 0 hlt (by omega);obtain⟨v1,hv1⟩:=ag (aF R bs 0 k);obtain⟨v2,hv2⟩:=ag (aF R bs k 0);rw[hv1] at c0 hb0;rw[hv2] at c1 hb9;have hgw:g<wr.heap.size:=Nat.lt_of_lt_of_le hgl hb.out.size
    have k128:(k:Int)<128:=by omega
    have k128':k<128:=by omega
    have kR9Q:(k:Int)<(R:Int):=by omega
    have R0:(0:Int)<(R:Int):=by omega
    have R0':0<R:=by omega
    have HV1:=aa hv1;have HV2:=aa hv2
    have hsn:(List.range (k+1)).map (fun p:Nat=>-nV (aF R bs p 0))=(List.range k).map (fun p:Nat=>-nV (aF R bs p 0))++[-pA v2]:=by
     rw[List.range_succ,List.map_append];simp only[List.map_cons,List.map_nil]
     rw[HV2.out];rfl
    have HSN:=aa hsn;obtain⟨nb,hnb⟩:=ag (ud v2)
    have hnb2:nB (aF R bs k 0)=nb:=by rw[HV2.out];exact hnb
    have HNB:=aa hnb2;obtain⟨nv,hnv⟩:=ag (-pA v2);rw[hnv] at HSN;clear hv1 hv2 hsn hnb2 hra2;obtain⟨wq,rfl⟩:∃y:World,y=wr:=⟨wr,rfl⟩
    have lh9Q:(Instr.lookup 242 (.map (some wq.heap.size)) (.string ⟨#[108,111,119]⟩) false).run prog (wq.alloc d7).drew=.ok (.func (.func 268) #[] #[]) (wq.alloc d7).drew :=
     gw (r:=wq.heap.size) (i:=1) underlying242 underlying9 (af wq d7 _ rfl) (by rfl)
    go_wp2_with fail
    go_cut [11,12] (fun s11 s12 wx=>s11=.int .i64 nv∧s12=.bool nb∧Hid (Below wq.heap.size wq wx))
    case first =>
     have ba:Below wq.heap.size wq (wq.alloc d7).drew:=(aD).drew;have d0:=(ba.cell (p:=⟨g,k,none⟩) hgw).trans c0;have d1:=(ba.cell (p:=⟨g,k*128,none⟩) hgw).trans c1
     go_region_held3 (fun V=>V.cell? ⟨g,k,none⟩=some (.int .i64 v1)∧V.cell? ⟨g,k*128,none⟩=some (.int .i64 v2))
      (first|(exact⟨u0,u1⟩)|(exact⟨d0,d1⟩)|(exact⟨c0,c1⟩)|go_keep)
      (first
       | (go_at_call 223;refine(tZ _).mono ?_;rintro e W2 ⟨rfl,rfl⟩)
       | (go_at_call 268;refine(Aq _ _ _ (by omega)).mono ?_;rintro e W3 ⟨rfl,h1⟩;(rw[hnb,hnv]);(have h2:Below wq.heap.size wq W3:=ba.trans (h1.mono (by simp)));(have u0:=(h2.cell (p:=⟨g,k,none⟩) hgw).trans c0);(have u1:=(h2.cell (p:=⟨g,k*128,none⟩) hgw).trans c1);(have HH:=aa h2);clear h1 h2))
     all_goals (go_wp2_with fail;go_meet)
     all_goals exact⟨rfl,rfl,HH⟩
    case rest =>
     obtain⟨rfl,rfl,hbx⟩:=hcut;obtain⟨wf,rfl⟩:∃x:World,x=wc:=⟨wc,rfl⟩;have hbf:=bU hb hbx.out;have hof:=av hown.out (fun q hq=>hbx.out.block q (o5 hown.out hq));have HOF:=aa hof;clear lh9Q c0 c1 hof hnb hnv
     cases nb with
     | false =>
       go_wp2_with fail;refine bodyPost_ret (v:=.tuple #[.slice none 0 0,.int .i64 5]) (by simp[results,results189,go_sem]) rfl ⟨?_,bB HB2.out hbf.out⟩;have hany:(List.range R).any (fun p=>!nB (aF R bs p 0))=true:=List.any_eq_true.2 ⟨k,List.mem_range.2 hlt,by rw[HNB.out];rfl⟩;rw[show leastE R bs=([],5) by rw[HE.out,if_pos hany]];exact⟨_,rfl,World.ownsRow_nil _ _ _ _⟩
     | true =>
       have ba:Below wf.heap.size wf (wf.alloc (.cells #[.int .i64 nv] 3)):=aD;obtain⟨v',W',hr',ho',hb'⟩:=mH (wf.alloc (.cells #[.int .i64 nv] 3)) w2.heap.size u9 ((List.range k).map (fun p:Nat=>-nV (aF R bs p 0))) (World.ownsRow.alloc HOF.out _) (some ⟨wf.heap.size,0,none⟩) 1 [nv] (tk wf nv) (by simp;omega) (by simp) (Nat.le_trans hbf.out.size ba.size) 52;have HR':=aa hr';have HO':=aa ho';have HB':=aa (hbf.out.trans ((ba.mono hbf.out.size).trans hb'));clear hr' ho' hb' ba;go_wp2_with (at_builtin;refine aN rfl (s:=.tmp 48) (x:=.tmp 50) (t:=52) rfl rfl rfl HR'.out ?_);go_roundw
       case rel =>
        refine⟨k+1,by omega,by go_num,aa (fun p hp=>?_),aa (by rw[HSN.out];exact HO'.out),HB'⟩
        by_cases e:p=k
        ·subst e;exact HNB.out
        ·exact hall.out p (by omega)
       case measure=>simp[intOf];omega
   ·obtain rfl:k=R:=by omega
    have hmap:(List.range k).map (fun p:Nat=>-nV (aF k bs p 0))=xC k bs:=by
     unfold xC
     exact List.map_congr_left fun p hp=>by rw[nV_near (by have q:=hall.out p (List.mem_range.1 hp);unfold nB at q;unfold aC;exact of_decide_eq_true q)]
    have hany:(List.range k).any (fun p=>!nB (aF k bs p 0))=false:=by
     rw[List.any_eq_false];intro p hp
     rw[hall.out p (List.mem_range.1 hp)];simp
    rw[hmap] at hown;have HAN:=aa hany;have HOW:=aa (bF hown.out HB2.out.size);obtain⟨o99Q,c9,e9,_,_⟩:=fU hown.out;subst e9;have HBF:=bU HB2 hb.out;clear hmap hany hown hall hb;go_wp2_with fail;refine bodyPost_ret (v:=.tuple #[.slice o99Q (xC k bs).length c9,.int .i64 0]) (by simp[results,results189,go_sem]) rfl ⟨?_,HBF.out⟩;rw[show leastE k bs=(xC k bs,0) by rw[HE.out,if_neg (by rw[HAN.out];simp)]];exact⟨_,rfl,HOW.out⟩
 ·have hE:leastE N bs=([],bc N bs []):=by unfold leastE extremeE;rw[if_neg he]
  obtain⟨c,hc⟩:=ag (bc N bs [])
  have hc1:(c==0)=false:=by rw[←hc];simpa using he
  have hc2:(c != 0)=true:=by rw[←hc];simpa using he
  have HC:=aa hc;have HD:=aa hE;have HEE:=aa he;have HA:=aa hask;clear hE he hc hask;go_enter func189,ntmps189;go_wp2_with fail;refine HA.out.mono ?_;rintro e w1 ⟨hp,hb1⟩;unfold cB at hp;rw[if_neg HEE.out,HC.out] at hp;subst hp;go_wp2_with fail;refine bodyPost_ret (v:=.tuple #[.slice none 0 0,.int .i64 c]) (by simp[results,results189,go_sem]) rfl ⟨?_,bB hB0 hb1⟩;rw[HD.out,HC.out];exact⟨_,rfl,World.ownsRow_nil _ _ _ _⟩
theorem greatest_any (w:World) (N:Int) (a:Option Addr) (cap:Nat) (bs:List Bd) (hN:bK N) (hl:bs.length≤9223372036854775807) (h:BoundsAt w a bs) :
 Calls prog 117 #[.agg #[.int .i64 N,.slice a bs.length cap]] w fun e w'=>iN (greatestE N bs).1 (greatestE N bs).2 w.heap.size e w'∧Below w.heap.size w w':=by
 have b0:Below w.heap.size w (w.alloc (.cells #[.int .i64 N,.slice a bs.length cap] 61)):=aD;have hex:=extreme_high (w.alloc (.cells #[.int .i64 N,.slice a bs.length cap] 61)) N a cap bs hN hl (h.alloc _);obtain⟨⟨L,c⟩,hLc⟩:=ag (greatestE N bs);rw[hLc] at hex ⊢;have HEX:=aa hex;have B0:=aa b0;clear hex b0 hLc;go_enter func117,ntmps117;go_wp2_with fail;refine HEX.out.mono ?_;rintro e w1 ⟨⟨v,rfl,ho⟩,hb1⟩;have HO:=aa ho;have HB:=aa hb1;clear ho hb1;go_wp2_with fail;refine bodyPost_ret (v:=.tuple #[v,.int .i64 c]) (by simp[results,results117,go_sem]) rfl ⟨⟨v,rfl,bF HO.out B0.out.size⟩,bB B0.out HB.out⟩
theorem least_any (w:World) (N:Int) (a:Option Addr) (cap:Nat) (bs:List Bd) (hN:bK N) (hl:bs.length≤9223372036854775807) (h:BoundsAt w a bs) :
 Calls prog 112 #[.agg #[.int .i64 N,.slice a bs.length cap]] w fun e w'=>iN (leastE N bs).1 (leastE N bs).2 w.heap.size e w'∧Below w.heap.size w w':=by
 have b0:Below w.heap.size w (w.alloc (.cells #[.int .i64 N,.slice a bs.length cap] 61)):=aD;have hex:=extreme_low (w.alloc (.cells #[.int .i64 N,.slice a bs.length cap] 61)) N a cap bs hN hl (h.alloc _);obtain⟨⟨L,c⟩,hLc⟩:=ag (leastE N bs);rw[hLc] at hex ⊢;have HEX:=aa hex;have B0:=aa b0;clear hex b0 hLc;go_enter func112,ntmps112;go_wp2_with fail;refine HEX.out.mono ?_;rintro e w1 ⟨⟨v,rfl,ho⟩,hb1⟩;have HO:=aa ho;have HB:=aa hb1;clear ho hb1;go_wp2_with fail;refine bodyPost_ret (v:=.tuple #[v,.int .i64 c]) (by simp[results,results112,go_sem]) rfl ⟨⟨v,rfl,bF HO.out B0.out.size⟩,bB B0.out HB.out⟩
def firstE (F:Fld) (l:List Rcd):List Int×Int:=if aW F l 0≠0 then([],aW F l 0) else(xC (bj F) (aj F l),0)
def lastE (F:Fld) (l:List Rcd):List Int×Int:=if aW F l 0≠0 then([],aW F l 0) else(qa (bj F) (aj F l),0)
theorem firstL_any (w:World) (x:FV) (F:Fld) (ar:Option Addr) (cr:Nat) (l:List Rcd) (h:FldAt w x F) (hr:cI w ar l) (hn:l.length≤100000) (hk:∀r∈l,(0≤r.call.kind∧r.call.kind≤255)∧r.deed.size≤9223372036854775807) :
 Calls prog 45 #[x.val F,.slice ar l.length cr] w fun e w'=>iN (firstE F l).1 (firstE F l).2 w.heap.size e w'∧Below w.heap.size w w':=by
 obtain⟨w0,hw0⟩:∃W,W=w.alloc (.cells (x.arr F) 27):=⟨_,rfl⟩;have B0:=aa (show Below w.heap.size w w0 by rw[hw0];exact aD);have X0:=aa (show w0.heap[w.heap.size]?=some (.cells (x.arr F) 27 (0,0)) by rw[hw0];exact heap_alloc_new _ _);have HA:=aa (eT w0 x F ar cr l (h.below B0.out) (hr.below B0.out (Nat.le_refl _)) hn hk 95 #[] true (enters_of func95 (by kernel_rfl) rfl) (fun hg W b o c hw hb=>rE W _));rw[show bq true=0 from rfl] at HA;obtain⟨⟨R1,R2⟩,hR⟩:=ag (firstE F l);rw[hR];unfold firstE at hR;have HMZ:=aa (fun(q:aW F l 0=0)=>cx.1 q);obtain⟨M,hM⟩:=ag (aW F l 0);rw[hM] at HA hR HMZ;have HR:=aa hR;have kk:=ak X0.out;clear hM h hr hn hk hR
 unfold FV.val FV.arr at *
 go_enter func45,ntmps45;go_upto_region 1 with fail;rw[←hw0];clear hw0;go_wp2_with fail;refine HA.out.mono ?_;rintro e w1 ⟨hp,hb1⟩;have B1:=bU B0 hb1;clear hb1 HA kk X0;unfold cJ at hp
 by_cases h0:M=0
 rotate_left
 ·have hzb:(M != 0)=true:=by simpa using h0
  rw[if_neg h0] at hp;have hq:=HR.out;rw[if_pos h0] at hq;obtain⟨v,rfl⟩:=hp;cases hq;clear h0 HR HMZ;go_wp2_with fail;refine bodyPost_ret (v:=.tuple #[.slice none 0 0,.int .i64 R2]) (by simp[results,results45,go_sem]) rfl ⟨⟨_,rfl,World.ownsRow_nil _ _ _ _⟩,B1.out⟩
 subst h0;rw[if_pos rfl] at hp;have hq:=HR.out;rw[if_neg (by simp)] at hq;obtain⟨b,o,c,rfl,hw,hbl⟩:=hp;obtain⟨q1,q2,q3⟩:=HMZ.out rfl;have hL:=least_any w1 (bj F) o c (aj F l) (qx q1.fld) (Nat.le_trans hw.cap.1 hw.cap.2) hw.bnd;rw[(last_eq q1 q3).2,hq] at hL;have HX:=aa hw.box;have kx:=ak HX.out;unfold WV.arr at kx;have HL:=aa hL;obtain⟨P,hP⟩:∃P:Int,((bj F:Nat):Int)=P:=⟨_,rfl⟩;rw[hP] at kx HL;obtain⟨LN,hLN⟩:=ag ((aj F l).length);rw[hLN] at kx HL;clear hP hLN hq hL q1 q2 q3 hw hbl HR HMZ HX;go_wp2_with fail;refine HL.out.mono ?_;rintro e w2 ⟨⟨v,rfl,ho⟩,hb2⟩;have B2:=bU B1 hb2;have HO:=aa (bF ho B1.out.size);clear hb2 ho kx HL;go_wp2_with fail;refine bodyPost_ret (v:=.tuple #[v,.int .i64 R2]) (by simp[results,results45,go_sem]) rfl ⟨⟨_,rfl,HO.out⟩,B2.out⟩
theorem lastL_any (w:World) (x:FV) (F:Fld) (ar:Option Addr) (cr:Nat) (l:List Rcd) (h:FldAt w x F) (hr:cI w ar l) (hn:l.length≤100000) (hk:∀r∈l,(0≤r.call.kind∧r.call.kind≤255)∧r.deed.size≤9223372036854775807) :
 Calls prog 49 #[x.val F,.slice ar l.length cr] w fun e w'=>iN (lastE F l).1 (lastE F l).2 w.heap.size e w'∧Below w.heap.size w w':=by
 obtain⟨w0,hw0⟩:∃W,W=w.alloc (.cells (x.arr F) 27):=⟨_,rfl⟩;have B0:=aa (show Below w.heap.size w w0 by rw[hw0];exact aD);have X0:=aa (show w0.heap[w.heap.size]?=some (.cells (x.arr F) 27 (0,0)) by rw[hw0];exact heap_alloc_new _ _);have HA:=aa (eT w0 x F ar cr l (h.below B0.out) (hr.below B0.out (Nat.le_refl _)) hn hk 95 #[] true (enters_of func95 (by kernel_rfl) rfl) (fun hg W b o c hw hb=>rE W _));rw[show bq true=0 from rfl] at HA;obtain⟨⟨R1,R2⟩,hR⟩:=ag (lastE F l);rw[hR];unfold lastE at hR;have HMZ:=aa (fun(q:aW F l 0=0)=>cx.1 q);obtain⟨M,hM⟩:=ag (aW F l 0);rw[hM] at HA hR HMZ;have HR:=aa hR;have kk:=ak X0.out;clear hM h hr hn hk hR
 unfold FV.val FV.arr at *
 go_enter func49,ntmps49;go_upto_region 1 with fail;rw[←hw0];clear hw0;go_wp2_with fail;refine HA.out.mono ?_;rintro e w1 ⟨hp,hb1⟩;have B1:=bU B0 hb1;clear hb1 HA kk X0;unfold cJ at hp
 by_cases h0:M=0
 rotate_left
 ·have hzb:(M != 0)=true:=by simpa using h0
  rw[if_neg h0] at hp;have hq:=HR.out;rw[if_pos h0] at hq;obtain⟨v,rfl⟩:=hp;cases hq;clear h0 HR HMZ;go_wp2_with fail;refine bodyPost_ret (v:=.tuple #[.slice none 0 0,.int .i64 R2]) (by simp[results,results49,go_sem]) rfl ⟨⟨_,rfl,World.ownsRow_nil _ _ _ _⟩,B1.out⟩
 subst h0;rw[if_pos rfl] at hp;have hq:=HR.out;rw[if_neg (by simp)] at hq;obtain⟨b,o,c,rfl,hw,hbl⟩:=hp;obtain⟨q1,q2,q3⟩:=HMZ.out rfl;have hL:=greatest_any w1 (bj F) o c (aj F l) (qx q1.fld) (Nat.le_trans hw.cap.1 hw.cap.2) hw.bnd;rw[(last_eq q1 q3).1,hq] at hL;have HX:=aa hw.box;have kx:=ak HX.out;unfold WV.arr at kx;have HL:=aa hL;obtain⟨P,hP⟩:∃P:Int,((bj F:Nat):Int)=P:=⟨_,rfl⟩;rw[hP] at kx HL;obtain⟨LN,hLN⟩:=ag ((aj F l).length);rw[hLN] at kx HL;clear hP hLN hq hL q1 q2 q3 hw hbl HR HMZ HX;go_wp2_with fail;refine HL.out.mono ?_;rintro e w2 ⟨⟨v,rfl,ho⟩,hb2⟩;have B2:=bU B1 hb2;have HO:=aa (bF ho B1.out.size);clear hb2 ho kx HL;go_wp2_with fail;refine bodyPost_ret (v:=.tuple #[v,.int .i64 R2]) (by simp[results,results49,go_sem]) rfl ⟨⟨_,rfl,HO.out⟩,B2.out⟩
end Go.Proofs.YtkhemfnlflbniaaGreatDoor
namespace Go.Proofs.YtkhemfnlflbniaaGreatDoor
def natKB (bs:List Bd) (y:List Int):Bool:=bs.all fun b=>decide (az y b.dst-az y b.src≤b.most)
def inAll (y:List Int):Bool:=y.all fun n=>bm n 0 100000
def natDrw (F:Fld) (y:List Int):Bool:=decide (y.length=bj F)&&(decide (y.getD 0 0=0)&&(inAll y&&natKB (fF F) y))
def atP (F:Fld) (k s:Int) (y:List Int):Int×Int :=
 if F.check≠0 then(0,F.check) else if(aY F k&&(bm s 0 100000&&natDrw F y))=false then(0,1) else match hasI F y k s with|some i=>((i:Int),0)|none=>(0,5)
def whoseP (F:Fld) (l:List Rcd) (k s:Int):Int×Bool×Int :=
 if aW F l (bq (aY F k&&bm s 0 99999))≠0 then(0,false,aW F l (bq (aY F k&&bm s 0 99999))) else match whoseI F l k s with|some i=>((i:Int),true,0)|none=>(0,false,0)
def mayTo (F:Fld) (l:List Rcd) (k s:Int) (n:Nat):List Int:=((List.range n).filter fun i=>mayB F l k s (cN F i)).map fun(i:Nat)=>(i:Int)
def mayP (F:Fld) (l:List Rcd) (k s:Int):List Int×Int :=
 if aW F l (bq (aY F k&&bm s 0 99999))≠0 then([],aW F l (bq (aY F k&&bm s 0 99999))) else(mayTo F l k s F.prs.length,0)
theorem mayTo_succ (F:Fld) (l:List Rcd) (k s:Int) (n:Nat):mayTo F l k s (n+1)=mayTo F l k s n++(if mayB F l k s (cN F n)=true then[(n:Int)] else[]):=by
 unfold mayTo;rw[List.range_succ,List.filter_append,List.map_append]
 congr 1
 by_cases h:mayB F l k s (cN F n)=true<;>simp[h]
theorem mayTo_len (F:Fld) (l:List Rcd) (k s:Int) (n:Nat):(mayTo F l k s n).length≤n:=by
 unfold mayTo;rw[List.length_map];have:=List.length_filter_le (fun i=>mayB F l k s (cN F i)) (List.range n);rw[List.length_range] at this;exact this
theorem find_at {n k:Nat} {f:Nat→Bool} (hk:k<n) (hb:∀j,j<k→f j=false) (h:f k=true):(List.range n).find? f=some k:=by
 cases e:(List.range n).find? f with
 | none=>rw[find_none e hk] at h;cases h
 | some i =>
   have a:=find_in e
   rcases Nat.lt_trichotomy i k with q|q|q
   ·rw[hb i q] at a;cases a.2
   ·rw[q]
   ·exfalso
    rw[List.find?_eq_some_iff_append] at e;obtain⟨-,xs,ys,e1,e2⟩:=e
    have hl:xs.length=i:=by
     have:(List.range n)[xs.length]?=some i:=by rw[e1];simp
     rw[List.getElem?_eq_some_iff] at this;obtain⟨t,ht⟩:=this;simpa using ht
    have:k∈xs:=by
     have q1:(List.range n)[k]?=some k:=by rw[List.getElem?_range hk]
     rw[e1,List.getElem?_append_left (by omega)] at q1;exact List.mem_of_getElem? q1
    have:=e2 k this;rw[h] at this;cases this
theorem find_not {n:Nat} {f:Nat→Bool} (hb:∀j,j<n→f j=false):(List.range n).find? f=none:=by
 cases e:(List.range n).find? f with
 | none=>rfl
 | some i=>have a:=find_in e;rw[hb i a.1] at a;cases a.2
end Go.Proofs.YtkhemfnlflbniaaGreatDoor
namespace Go.Proofs.YtkhemfnlflbniaaGreatDoor
open Go Go.RowKit Go.Shelf Go.Proofs.Tryz
theorem ints_keepsB {Fix:Nat→Prop} {w W:World} {a:Option Addr} {y:List Int} (h:IntsAt w a y) (hb:KeepsB Fix w W) (hF:∀b,b<w.heap.size→Fix b):IntsAt W a y:=by
 rcases h with e|⟨b,off,e,hl,hc⟩
 ·exact .inl e
 ·exact .inr ⟨b,off,e,Nat.lt_of_lt_of_le hl hb.size,fun i hi=>(hb.cell (p:=⟨b,off+i,none⟩) (hF b hl)).trans (hc i hi)⟩
theorem nat_valid {F:Fld} (h:F.check=0):(fF F).length≤2000∧∀b∈fF F,(0≤b.src∧b.src<bj F)∧0≤b.dst∧b.dst<bj F:=by
 have g:cX F []:=⟨h,by simp,by simp,List.Pairwise.nil,.inr rfl⟩
 have e:aj F []=fF F:=by unfold aj;simp
 have sl:=Aa g;rw[e] at sl;refine⟨sl,fun b hb=>?_⟩;have:=kW.1 (vy g b (e▸hb));exact⟨⟨this.1.1,this.1.2⟩,this.2.1.1,this.2.1.2⟩
theorem points_ptN (F:Fld):F.points=(bj F:Int):=by unfold Fld.points bj;push_cast;rfl
theorem drawn1_any (n:Int) (W:World):Calls prog 216 #[.int .i64 n] W fun e w'=>e=.returned (.bool (!bm n 0 100000))∧W=w':=by
 go_enter func216,ntmps216;go_wp2_with (go_at_call 137;refine(gF _ _ _ _).mono ?_;rintro e w' ⟨rfl,rfl⟩);go_ret;exact⟨rfl,rfl⟩
theorem keptQ_any (w:World) (x:Bd) (g:Nat) (a:Option Addr) (c:Nat) (y:List Int) (hc:w.cell? ⟨g,0,none⟩=some (.slice a y.length c)) (hg:g<w.heap.size) (hy:IntsAt w a y) (hb:∀v∈y,0≤v∧v≤100000) (h1:0≤x.src∧x.src<y.length) (h2:0≤x.dst∧x.dst<y.length) :
 Calls prog 265 #[x.val,.pointer (some ⟨g,0,none⟩)] w fun e w'=>e=.returned (.bool (!decide (az y x.dst-az y x.src≤x.most)))∧Below w.heap.size w w':=by
 obtain⟨s,d,m,r⟩:=x;dsimp only at h1 h2 ⊢;obtain⟨s,rfl⟩:∃n:Nat,s=n:=⟨s.toNat,by omega⟩;obtain⟨d,rfl⟩:∃n:Nat,d=n:=⟨d.toNat,by omega⟩;have hs1:(s:Int)<(y.length:Int):=h1.2;have hs0:(0:Int)≤(s:Int):=h1.1;have hd1:(d:Int)<(y.length:Int):=h2.2;have hd0:(0:Int)≤(d:Int):=h2.1
 have l1:s<y.length:=by omega
 have l2:d<y.length:=by omega
 obtain⟨u,hu⟩:=ag (y[d]);obtain⟨v,hv⟩:=ag (y[s]);have ub9Q:=hb u (by rw[←hu];exact List.getElem_mem l2);have vb:=hb v (by rw[←hv];exact List.getElem_mem l1)
 have e1:az y (d:Int)=u:=by unfold az;rw[Int.toNat_natCast,List.getD_eq_getElem?_getD,List.getElem?_eq_getElem l2,←hu];rfl
 have e2:az y (s:Int)=v:=by unfold az;rw[Int.toNat_natCast,List.getD_eq_getElem?_getD,List.getElem?_eq_getElem l1,←hv];rfl
 rw[e1,e2]
 rcases hy with e|⟨yb,yo9Q,rfl,hyb,hyc⟩
 ·simp[e] at l1
 obtain⟨w0,hw0⟩:∃W,W=w.alloc (.cells #[.int .i64 (s:Int),.int .i64 (d:Int),.int .i64 m,.int .i64 r] 65):=⟨_,rfl⟩;have B0:=aa (show Below w.heap.size w w0 by rw[hw0];exact aD);have X0:=aa (show w0.heap[w.heap.size]?=some (.cells #[.int .i64 (s:Int),.int .i64 (d:Int),.int .i64 m,.int .i64 r] 65 (0,0)) by rw[hw0];exact heap_alloc_new _ _);have HCG:=aa (fun V (hV:Below w0.heap.size w0 V)=>((hV.cell (p:=⟨g,0,none⟩) (Nat.lt_of_lt_of_le hg B0.out.size)).trans (B0.out.cell (p:=⟨g,0,none⟩) hg)).trans hc);have HCU:=aa (fun V (hV:Below w0.heap.size w0 V)=>((hV.cell (p:=⟨yb,yo9Q+d,none⟩) (Nat.lt_of_lt_of_le hyb B0.out.size)).trans (B0.out.cell (p:=⟨yb,yo9Q+d,none⟩) hyb)).trans (show w.cell? ⟨yb,yo9Q+d,none⟩=some (.int .i64 u) from hu▸hyc d l2));have HCV:=aa (fun V (hV:Below w0.heap.size w0 V)=>((hV.cell (p:=⟨yb,yo9Q+s,none⟩) (Nat.lt_of_lt_of_le hyb B0.out.size)).trans (B0.out.cell (p:=⟨yb,yo9Q+s,none⟩) hyb)).trans (show w.cell? ⟨yb,yo9Q+s,none⟩=some (.int .i64 v) from hv▸hyc s l1));obtain⟨LY,hLY⟩:=ag y.length;rw[hLY] at hs1 hd1 HCG;have ws:IntKind.i64.wrap (u-v)=u-v:=IntWalk.i64_in _ (by omega);clear e1 e2 hu hv ub9Q vb l1 l2 h1 h2 hyc hyb hc hg hb hLY;unfold Bd.val;go_enter func265,ntmps265;go_upto_region 1 with fail;rw[←hw0];clear hw0;have hS0:Below w0.heap.size w0 w0.drew:=(Below.refl _ _).drew;refine aJ (S:=Below w0.heap.size w0) (last:=100) (by kernel_rfl) ?_;refine tf 0 4 (.slice (some ⟨yb,yo9Q,none⟩) LY c) hS0 (fun V hV=>?_) ?_
 ·(have z:=HCG.out V hV;simp[go_sem,execOp,z])
 (try simp only[s3]);refine aR 1 5 (.pointer (some ⟨w.heap.size,1,none⟩)) hS0 ?_;(try simp only[s3]);refine tf 2 6 (.int .i64 ((d:Int))) hS0 (fun V hV=>?_) ?_
 ·(have z:V.cell? ⟨w.heap.size,1,none⟩=some (.int .i64 (d:Int)):=ce (i:=1) (ac hV (lt_of_block X0.out) X0.out) rfl;simp[go_sem,execOp,z])
 (try simp only[s3]);refine tf 3 7 (.pointer (some ⟨yb,yo9Q+d,none⟩)) hS0 (fun V hV=>?_) ?_
 ·simp[go_sem,execOp,hd1,hd0]
 (try simp only[s3]);refine tf 4 8 (.int .i64 u) hS0 (fun V hV=>?_) ?_
 ·(have z:=HCU.out V hV;simp[go_sem,execOp,z])
 (try simp only[s3]);refine tf 5 9 (.slice (some ⟨yb,yo9Q,none⟩) LY c) hS0 (fun V hV=>?_) ?_
 ·(have z:=HCG.out V hV;simp[go_sem,execOp,z])
 (try simp only[s3]);refine aR 6 10 (.pointer (some ⟨w.heap.size,0,none⟩)) hS0 ?_;(try simp only[s3]);refine tf 7 11 (.int .i64 ((s:Int))) hS0 (fun V hV=>?_) ?_
 ·(have z:V.cell? ⟨w.heap.size,0,none⟩=some (.int .i64 (s:Int)):=ce (i:=0) (ac hV (lt_of_block X0.out) X0.out) rfl;simp[go_sem,execOp,z])
 (try simp only[s3]);refine tf 8 12 (.pointer (some ⟨yb,yo9Q+s,none⟩)) hS0 (fun V hV=>?_) ?_
 ·simp[go_sem,execOp,hs1,hs0]
 (try simp only[s3]);refine tf 9 13 (.int .i64 v) hS0 (fun V hV=>?_) ?_
 ·(have z:=HCV.out V hV;simp[go_sem,execOp,z])
 (try simp only[s3]);refine tf 10 14 (.int .i64 (u-v)) hS0 (fun V hV=>?_) ?_
 ·simp[go_sem,execOp,ws]
 (try simp only[s3]);refine aR 11 15 (.pointer (some ⟨w.heap.size,2,none⟩)) hS0 ?_;(try simp only[s3]);refine tf 12 16 (.int .i64 m) hS0 (fun V hV=>?_) ?_
 ·(have z:V.cell? ⟨w.heap.size,2,none⟩=some (.int .i64 m):=ce (i:=2) (ac hV (lt_of_block X0.out) X0.out) rfl;simp[go_sem,execOp,z])
 (try simp only[s3]);refine aR 13 17 (.bool (decide (m<u-v))) hS0 ?_;(try simp only[s3]);refine aR 14 3 (.bool (decide (m<u-v))) hS0 ?_;(try simp only[s3]);refine aw (by kernel_rfl) ?_ _;go_wp2_with fail;go_ret
 have e:decide (m<u-v)=!decide (u-v≤m):=by rw[Bool.eq_iff_iff];simp
 exact⟨by rw[←e];rfl,bB B0.out hS0⟩
theorem containsFuncBounds_any (w:World) (a:Option Addr) (cap:Nat) (bs:List Bd) (f:FuncId) (caps:Array Value) (Fix:Nat→Prop) (p:Bd→Bool) (hl:bs.length≤9223372036854775807) (h:BoundsAt w a bs)
 (hF:∀b,Fix b→b<w.heap.size) (hf:kA prog f caps Fix w bs p) (eg:Enters prog f) :
 Calls prog 264 #[.slice a bs.length cap,.func (.func f) #[] caps] w fun e w'=>e=.returned (.bool (bs.any p))∧Below w.heap.size w w':=by
 have H:=aa h;have HF:=aa hf;have HFx:=aa hF;have E:=aa eg;clear h hf eg hF;go_enter func264,ntmps264;go_wp2_with (go_at_call 248;refine(fD _ a cap bs f caps Fix p hl H.out HFx.out HF.out E.out).mono ?_;rintro e w' ⟨rfl,hb⟩)
 all_goals go_ret
 refine⟨?_,hb⟩;have:=ji (p:=p) bs
 cases hq:bs.any p with
 | true=>rw[hq] at this;simp at this;simp[this]
 | false=>rw[hq] at this;simp at this;simp[this]
theorem keptD_any (w:World) (a:Option Addr) (c:Nat) (bs:List Bd) (a2:Option Addr) (c2:Nat) (y:List Int) (hl:bs.length≤9223372036854775807) (hB:BoundsAt w a bs) (hy:IntsAt w a2 y) (hv:∀v∈y,0≤v∧v≤100000)
 (hp:∀b∈bs,(0≤b.src∧b.src<y.length)∧0≤b.dst∧b.dst<y.length) :
 Calls prog 217 #[.slice a bs.length c,.slice a2 y.length c2] w fun e w'=>e=.returned (.bool (natKB bs y))∧Below w.heap.size w w':=by
 obtain⟨w0,hw0⟩:∃W,W=w.alloc (.cells #[.slice a2 y.length c2] 52):=⟨_,rfl⟩;have B0:=aa (show Below w.heap.size w w0 by rw[hw0];exact aD)
 have X0:w0.heap[w.heap.size]?=some (.cells #[.slice a2 y.length c2] 52 (0,0)):=by rw[hw0];exact heap_alloc_new _ _
 have hy0:=hy.below B0.out (Nat.le_refl _)
 have T:kA prog 265 #[.pointer (some ⟨w.heap.size,0,none⟩)] (fun b=>b<w0.heap.size) w0 bs (fun b=>!decide (az y b.dst-az y b.src≤b.most)):=fun k hk W hb =>
  keptQ_any W bs[k] w.heap.size a2 c2 y ((hb.cell (p:=⟨w.heap.size,0,none⟩) (lt_of_block X0)).trans ((ak X0 0).trans rfl)) (Nat.lt_of_lt_of_le (lt_of_block X0) hb.size) (ints_keepsB hy0 hb (fun _ q=>q)) hv (hp _ (List.getElem_mem hk)).1 (hp _ (List.getElem_mem hk)).2
 have HC:=aa (containsFuncBounds_any w0 a c bs 265 #[.pointer (some ⟨w.heap.size,0,none⟩)] (fun b=>b<w0.heap.size) (fun b=>!decide (az y b.dst-az y b.src≤b.most)) hl (hB.below B0.out (Nat.le_refl _)) (fun _ q=>q) T (enters_of func265 (by kernel_rfl) rfl));have HE:=aa (show(!(bs.any fun b=>!decide (az y b.dst-az y b.src≤b.most)))=natKB bs y by unfold natKB;rw[List.not_any_eq_all_not];simp);obtain⟨R,hR⟩:=ag (bs.any fun b=>!decide (az y b.dst-az y b.src≤b.most));rw[hR] at HC HE;obtain⟨LY,hLY⟩:=ag y.length;rw[←HE.out];rw[hLY] at hw0 ⊢;clear hR hLY X0 hy0 T hB hy hv hp hl HE;go_enter func217,ntmps217;go_upto_region 1 with fail;rw[←hw0];clear hw0;go_wp2_with (go_at_call 264;refine HC.out.mono ?_;rintro e w' ⟨rfl,hb⟩);go_ret;exact⟨rfl,bB B0.out hb⟩
theorem drawnD_any (w:World) (x:FV) (F:Fld) (hF:F.check=0) (a2:Option Addr) (c2:Nat) (y:List Int) (hl:y.length≤9223372036854775807) (hy:IntsAt w a2 y) :
 Calls prog 138 #[x.val F,.slice a2 y.length c2] w fun e w'=>e=.returned (.bool (natDrw F y))∧Below w.heap.size w w':=by
 obtain⟨w0,hw0⟩:∃W,W=w.alloc (.cells (x.arr F) 27):=⟨_,rfl⟩;have B0:=aa (show Below w.heap.size w w0 by rw[hw0];exact aD);have X0:=aa (show w0.heap[w.heap.size]?=some (.cells (x.arr F) 27 (0,0)) by rw[hw0];exact heap_alloc_new _ _);have fl:=(bb hF).2.1;have fs:=(bb hF).1;have HP:=aa (fun W=>oH W x F (by omega) (by omega));rw[points_ptN] at HP;have HN:=aa (fun W=>vw W x F hF);have hv:=nat_valid hF;have HI:=aa (fun W (hb:Below w0.heap.size w0 W)=>(hy.below B0.out (Nat.le_refl _)).below hb (Nat.le_refl _));have HT:=aa (fun W (hb:Below w0.heap.size w0 W)=>cF W a2 c2 y 216 #[] (fun n=>!bm n 0 100000) hl (HI.out W hb) (fun k hk V _=>(drawn1_any y[k] V).mono fun e V' q=>⟨q.1,q.2▸Below.refl _ _⟩) (enters_of func216 (by kernel_rfl) rfl))
 have HK:=aa (fun(q:inAll y=true) (q2:y.length=bj F) W o c (hb:Below w0.heap.size w0 W) (hB:BoundsAt W o (fF F))=>keptD_any W o c (fF F) a2 c2 y (by omega) hB (HI.out W hb) (fun v hv=>by
  unfold inAll at q;rw[List.all_eq_true] at q
  exact dZ.1 (q v hv)) (fun b hb=>by rw[q2];exact hv.2 b hb))
 have HZ:=aa (fun(q:y.length=bj F)=>(by
  have:=(iC hF).1
  have hl0:0<y.length:=by omega
  obtain⟨b,o,e,h1,h2⟩:=IntsAt.at (hy.below B0.out (Nat.le_refl _)) hl0;refine⟨b,o,e,h1,h2.trans ?_⟩;rw[List.getD_eq_getElem?_getD,List.getElem?_eq_getElem hl0]
  rfl:∃b off,a2=some ⟨b,off,none⟩∧b<w0.heap.size∧w0.cell? ⟨b,off,none⟩=some (.int .i64 (y.getD 0 0))))
 have HLP:=aa (show(1:Int)≤(bj F:Int) by have:=(iC hF).1;omega);obtain⟨R,hR⟩:=ag (natDrw F y);rw[hR];unfold natDrw at hR;have HR:=aa hR;have HA:=aa (show(y.any fun n=>!bm n 0 100000)=!inAll y by unfold inAll;rw[List.not_all_eq_any_not]);obtain⟨z,hz⟩:=ag (y.getD 0 0);rw[hz] at HZ HR;obtain⟨ia9Q,hia⟩:=ag (inAll y);rw[hia] at HK HR HA;rw[HA.out] at HT;obtain⟨kb,hkb⟩:=ag (natKB (fF F) y);rw[hkb] at HK HR;obtain⟨N,hN⟩:=ag (bj F);rw[hN] at HP HK HR HZ HLP;obtain⟨BS9Q,hBS⟩:=ag (fF F);rw[hBS] at HN HK;obtain⟨LY,hLY⟩:=ag y.length;rw[hLY] at HR HT HK HZ ⊢;have kk:=ak X0.out;clear hR hz hia hkb hN hBS hLY fl fs hv hy hl hF HA HI
 unfold FV.val FV.arr at *
 go_enter func138,ntmps138;go_upto_region 1 with fail;rw[←hw0];clear hw0
 by_cases h1:LY=N
 rotate_left
 ·have hne:((LY:Int) != (N:Int))=true:=by simpa using (show ¬((LY:Int)=(N:Int)) by omega)
  have hr:=HR.out;rw[decide_eq_false h1] at hr;go_wp2_with fail;refine(HP.out _).mono ?_;rintro e w1 ⟨rfl,hb1⟩;have B1:=bU B0 hb1;clear hb1 kk;go_wp2_with fail;go_ret;exact⟨by rw[←hr];rfl,B1.out⟩
 subst h1;obtain⟨yb,yo9Q,rfl,ylt,yc9Q⟩:=HZ.out rfl
 have hl1:(0:Int)<(LY:Int):=by have:=HLP.out;omega
 have HYC:=aa (fun W (hb:Below w0.heap.size w0 W)=>(hb.cell (p:=⟨yb,yo9Q,none⟩) ylt).trans yc9Q);clear ylt yc9Q HZ;go_wp2_with fail;refine(HP.out _).mono ?_;rintro e w1 ⟨rfl,hb1⟩;have HB1:=aa hb1;have k1:=ak (ac hb1 (lt_of_block X0.out) X0.out);have yc9Q:=HYC.out w1 hb1;clear hb1 kk
 by_cases h2:z=0
 rotate_left
 ·have hzb:(z != 0)=true:=by simpa using h2
  have hr:=HR.out;rw[decide_eq_false h2] at hr;go_wp2_with fail;go_ret;exact⟨by rw[←hr];simp,bB B0.out HB1.out⟩
 subst h2;go_wp2_with fail;refine(HT.out w1 HB1.out).mono ?_;rintro e w2 ⟨rfl,hb2⟩;have HB2:=bU HB1 hb2;have k2:=ak (ac HB2.out (lt_of_block X0.out) X0.out);clear hb2 k1 yc9Q;cases ia9Q
 ·have hr:=HR.out
  go_wp2_with fail;go_ret;exact⟨by rw[←hr];simp,bB B0.out HB2.out⟩
 have HKK:=aa (HK.out (by trivial) (by trivial));go_wp2_with fail;refine(HN.out w2).mono ?_;rintro e w3 ⟨⟨v,rfl,ho⟩,hb3⟩;obtain⟨o,c,rfl,hB,-⟩:=zx ho;have HB3:=bU HB2 hb3;have HK3:=aa (HKK.out w3 o c HB3.out hB);clear hb3 ho hB k2;go_wp2_with fail;refine HK3.out.mono ?_;rintro e w4 ⟨rfl,hb4⟩;have B4:=aa (B0.out.trans ((bB HB3.out hb4).mono B0.out.size));have hr:=HR.out;clear hb4;go_wp2_with fail;go_ret;exact⟨by rw[←hr];simp,B4.out⟩
theorem at_par {F:Fld} (hF:F.check=0) {k:Int} (hs:aY F k=true) (x:FV) {n:Nat} (hn:n<F.prs.length) :
 (∀W,Calls prog 139 #[x.val F,.int .i64 (cN F n).south,.int .i64 k] W fun e w'=>e=.returned (.int .i64 (eX F (cN F n).south k:Int))∧Below W.heap.size W w') ∧
 (∀W,Calls prog 139 #[x.val F,.int .i64 ((cN F n).south+1),.int .i64 k] W fun e w'=>e=.returned (.int .i64 (eX F ((cN F n).south+1) k:Int))∧Below W.heap.size W w') ∧
 eX F (cN F n).south k<bj F∧eX F ((cN F n).south+1) k<bj F∧0≤(cN F n).south∧(cN F n).south≤1000:=by
 have m:=zS hF (par_mem hn);have a:=kh m.1 hs;have b:=kh m.2 hs;have f1:=(bb hF).1;have f2:=(bb hF).2.1;have l1:=gh.1 m.1;have l2:=gh.1 m.2;have s1:=fw.1 hs;refine⟨fun W=>?_,fun W=>?_,a.2.1,b.2.1,l1.1,by omega⟩
 ·have:=j8 W x F (cN F n).south k (by omega) l1.1 (by omega) s1.1 (by omega)
  rw[←a.2.2] at this;exact this
 ·have:=j8 W x F ((cN F n).south+1) k (by omega) l2.1 (by omega) s1.1 (by omega)
  rw[←b.2.2] at this;exact this
theorem atD_any (w:World) (x:FV) (F:Fld) (k s:Int) (a2:Option Addr) (c2:Nat) (y:List Int) (h:FldAt w x F) (hl:y.length≤9223372036854775807) (hy:IntsAt w a2 y) :
 Calls prog 70 #[x.val F,.int .i64 k,.int .i64 s,.slice a2 y.length c2] w fun e w'=>e=.returned (.tuple #[.int .i64 (atP F k s y).1,.int .i64 (atP F k s y).2])∧Below w.heap.size w w':=by
 obtain⟨w0,hw0⟩:∃W,W=w.alloc (.cells (x.arr F) 27):=⟨_,rfl⟩;have B0:=aa (show Below w.heap.size w w0 by rw[hw0];exact aD);have X0:=aa (show w0.heap[w.heap.size]?=some (.cells (x.arr F) 27 (0,0)) by rw[hw0];exact heap_alloc_new _ _);have h0:=h.below B0.out;have hy0:=hy.below B0.out (Nat.le_refl _);have HC:=aa (fZ w0 x F h0);have HLN:=aa (And.intro h.ls (And.intro h.ll h.lp));have HDR:=aa (fun(q:F.check=0) W (hb:Below w0.heap.size w0 W)=>drawnD_any W x F q a2 c2 y hl (hy0.below hb (Nat.le_refl _)));have HFW:=aa (fun W (hb:Below w0.heap.size w0 W)=>(h0.below hb).pr);have HXB:=aa (fun W (hb:Below w0.heap.size w0 W)=>ak (ac hb (lt_of_block X0.out) X0.out));have HYW:=aa hy0;have HPC:=aa (fun(q:F.check=0) (q2:aY F k=true) (n:Nat) (hn:n<F.prs.length)=>at_par q q2 x hn);have HPL:=aa (fun(q:F.check=0)=>(iC q).1);obtain⟨⟨R1,R2⟩,hR⟩:=ag (atP F k s y);rw[hR];unfold atP at hR;obtain⟨sb,hsb⟩:=ag (aY F k);obtain⟨ib,hib⟩:=ag (bm s 0 100000);obtain⟨nb,hnb⟩:=ag (natDrw F y);have HI1:=aa (gN (n:=k) (a:=0) (b:=(F.sts.length:Int)-1) (r:=sb) hsb);have HI2:=aa (gN (n:=s) (a:=0) (b:=100000) (r:=ib) hib);rw[hsb,hib,hnb] at hR;rw[hsb] at HPC;rw[hnb] at HDR
 have HNB:=aa (fun(q:nb=true)=>(by
  rw[q] at hnb;unfold natDrw at hnb;rw[Bool.and_eq_true,decide_eq_true_eq] at hnb
  exact hnb.1:y.length=bj F))
 obtain⟨M,hM⟩:=ag F.check;rw[hM] at HC hR HDR HPC HPL;have HR:=aa hR;have kk:=ak X0.out;have hln:=HLN.out;have ws:IntKind.i64.wrap ((F.sts.length:Int)-1)=(F.sts.length:Int)-1:=IntWalk.i64_in _ (by omega);obtain⟨LY,hLY⟩:=ag y.length;have HLY:=aa hLY;rw[hLY] at HDR ⊢;clear hM h hR hsb hib hnb hl hy h0 hy0 hLY hln
 unfold FV.val FV.arr at *
 go_enter func70,ntmps70;go_upto_region 1 with fail;rw[←hw0];clear hw0;go_wp2_with fail;refine HC.out.mono ?_;rintro e w1 ⟨rfl,hb1⟩;have BB1:=aa hb1;clear hb1 HC kk;have hq:=HR.out
 by_cases h0:M=0
 rotate_left
 ·have hzb:(M != 0)=true:=by simpa using h0
  rw[if_pos h0] at hq;cases hq;clear h0 HR HPC HDR HPL HNB;go_wp2_with fail;go_ret2;exact⟨rfl,bB B0.out BB1.out⟩
 subst h0;rw[if_neg (by simp)] at hq;have HQ:=aa hq;have HDR2:=aa (HDR.out rfl);have HPC2:=aa (HPC.out rfl);have HPL2:=aa (HPL.out rfl);clear hq HR HDR HPC HPL;have kk:=HXB.out w1 BB1.out;go_wp2_with fail;refine(HI1.out _).mono ?_;rintro e w2 ⟨rfl,rfl⟩;cases sb
 ·have hq:=HQ.out
  rw[if_pos (by simp)] at hq;cases hq;clear HDR2 HPC2 HNB;go_wp2_with fail;go_ret2;exact⟨rfl,bB B0.out BB1.out⟩
 go_wp2_with fail;refine(HI2.out _).mono ?_;rintro e w3 ⟨rfl,rfl⟩;cases ib
 ·have hq:=HQ.out
  rw[if_pos (by simp)] at hq;cases hq;clear HDR2 HPC2 HNB;go_wp2_with fail;go_ret2;exact⟨rfl,bB B0.out BB1.out⟩
 go_wp2_with fail;refine(HDR2.out _ BB1.out).mono ?_;rintro e w4 ⟨rfl,hb4⟩;have BB4:=bU BB1 hb4;clear hb4 kk HDR2;have hq:=HQ.out;cases nb
 ·rw[if_pos (by simp)] at hq
  cases hq;clear HPC2 HNB;go_wp2_with fail;go_ret2;exact⟨rfl,bB B0.out BB4.out⟩
 rw[if_neg (by simp)] at hq;have HQ2:=aa hq;have HN:=aa (HNB.out rfl);have HPC3:=aa (HPC2.out (by trivial));clear hq HQ HNB HPC2
 rcases HYW.out with e|⟨yb,yo9Q,rfl,ylt,yc9Q⟩
 ·have a:=HN.out
  have b:=HPL2.out;rw[e] at a;simp at a;omega
 have HYC:=aa (fun W (hb:Below w0.heap.size w0 W) (j:Nat) (hj:j<bj F)=>(show W.cell? ⟨yb,yo9Q+j,none⟩=some (.int .i64 (y.getD j 0)) from by
  have hj2:j<y.length:=by rw[HN.out];exact hj
  rw[hb.cell (p:=⟨yb,yo9Q+j,none⟩) ylt,yc9Q j hj2,List.getD_eq_getElem?_getD,List.getElem?_eq_getElem hj2]
  rfl))
 have HLN2:=aa (show(LY:Int)=(bj F:Int) by have a:=HN.out;have b:=HLY.out;omega);clear ylt yc9Q HYW HN HLY HPL2;have kk:=HXB.out w4 BB4.out;go_upto_region 7 with fail;clear kk
 go_loopw [39] (fun p wr=>∃(n:Nat),n≤F.prs.length∧p=.int .i64 (n:Int)∧Hid (∀j,j<n→hasB F y k s (cN F j)=false)∧Hid (Below w0.heap.size w0 wr)) (fun p _=>F.prs.length-(intOf p).toNat)
 case atStart=>exact⟨0,Nat.zero_le _,rfl,aa (fun j q=>by omega),BB4⟩
 case round =>
  obtain⟨n,hn,rfl,HPV,HB⟩:=hrel;have hlp:=HLN.out.2.2
  by_cases hlt:n<F.prs.length
  rotate_left
  ·obtain rfl:n=F.prs.length:=by omega
   have hq:=HQ2.out
   have e:hasI F y k s=none:=by unfold hasI;exact find_not HPV.out
   rw[e] at hq;cases hq;go_wp2_with fail;go_ret2;exact⟨rfl,bB B0.out HB.out⟩
  obtain⟨pb,po,e1,hbl,hcc⟩:=RecsAt.at (HFW.out wr HB.out) hlt
  have ep:F.prs[n]=cN F n:=by unfold cN;simp[List.getD_eq_getElem?_getD,hlt]
  rw[ep] at hcc;obtain⟨P1,P2,l1,l2,s1,s2⟩:=HPC3.out n hlt;have HH:=aa (show hasB F y k s (cN F n)=(rf (cN F n) k&&(decide (y.getD (eX F (cN F n).south k) 0≤s)&&decide (s<y.getD (eX F ((cN F n).south+1) k) 0))) from rfl)
  have HNX:=aa (fun(q:hasB F y k s (cN F n)=false) j (hj:j<n+1)=>(by
   rcases Nat.lt_succ_iff_lt_or_eq.1 hj with e|e
   ·exact HPV.out j e
   ·rw[e];exact q:hasB F y k s (cN F j)=false))
  have HFN:=aa (fun(q:hasB F y k s (cN F n)=true)=>(by unfold hasI;exact find_at hlt HPV.out q:hasI F y k s=some n));obtain⟨A1,hA1⟩:=ag (eX F (cN F n).south k);obtain⟨A2,hA2⟩:=ag (eX F ((cN F n).south+1) k);rw[hA1] at P1 l1 HH;rw[hA2] at P2 l2 HH;have HY1:=aa (fun W (hb:Below w0.heap.size w0 W)=>HYC.out W hb A1 l1);have HY2:=aa (fun W (hb:Below w0.heap.size w0 W)=>HYC.out W hb A2 l2);obtain⟨v1,hv1⟩:=ag (y.getD A1 0);obtain⟨v2,hv2⟩:=ag (y.getD A2 0);rw[hv1] at HY1 HH;rw[hv2] at HY2 HH
  have hx1:(A1:Int)<(LY:Int):=by have:=HLN2.out;omega
  have hx2:(A2:Int)<(LY:Int):=by have:=HLN2.out;omega
  have hz1:(0:Int)≤(A1:Int):=by omega
  have hz2:(0:Int)≤(A2:Int):=by omega
  obtain⟨p,hp⟩:=ag (cN F n);rw[hp] at hcc P1 P2 HH HNX HFN s1 s2;unfold rf at HH;have wp1:IntKind.i64.wrap (p.south+1)=p.south+1:=IntWalk.i64_in _ (by omega);have HP1:=aa P1;have HP2:=aa P2
  have HRG:=aa (fun(j:Nat) (v:Value) (hv:p.vals.toList[j]?=some v)=>(by
   have hj:j<4:=(List.getElem?_eq_some_iff.1 hv).1
   exact(hcc j hj).trans (show p.cells[j]?=some v from hv):wr.cell? ⟨pb,po+n*4+j,none⟩=some v))
  have HRG2:=aa (show wr.rangeAt pb (po+n*4) p.vals.toList from HRG.out);rw[e1];clear ep hA1 hA2 hv1 hv2 hp hcc P1 P2 l1 l2 s1 s2 HRG hbl e1;obtain⟨wA,rfl⟩:∃z:World,z=wr:=⟨wr,rfl⟩;go_upto_region 8 with fail;refine wp_region_list ?_;go_upto_region 9 with (first|(refine wpList_load_mid rfl 133 _ rfl pb (po+n*4) rfl _ _ HRG2.out underlying133 rfl (by kernel_rfl) ?_)|(refine wpList_store_row rfl 133 _ _ rfl wA.heap.size p.vals rfl rfl 133 _ (heap_alloc_new _ _) (by kernel_rfl) (by kernel_rfl) (by simp[Par.vals,Value.oneCell']) ?_;rw[World.setRow_alloc_new]));refine mj ?_;intro W2 hW2
  have hb2:Below wA.heap.size wA W2:=by rw[hW2];exact aD
  have X2:=aa (show W2.heap[wA.heap.size]?=some (.cells p.vals 133 (0,0)) by rw[hW2];exact heap_alloc_new _ _);have B2:=bU HB hb2;obtain⟨A,hA⟩:=ag wA.heap.size;rw[hA] at X2 ⊢;clear hW2 hb2 HB HRG2 hA;simp only[Act.put];have kx:=HXB.out W2 B2.out;have kr:=ak X2.out;unfold Par.vals at kr;have hhas:hasB F y k s p=(decide (p.wst≤k)&&decide (k<p.est)&&(decide (v1≤s)&&decide (s<v2))):=HH.out
  by_cases c1:p.wst≤k
  rotate_left
  ·rw[decide_eq_false c1,Bool.false_and,Bool.false_and] at hhas
   have HNO:=aa (HNX.out hhas);clear hhas;go_wp2_with fail;go_roundw
   case rel=>exact⟨n+1,by omega,by go_num,HNO,B2⟩
   case measure=>simp[intOf];omega
  by_cases c2:k<p.est
  rotate_left
  ·rw[decide_eq_false c2,Bool.and_false,Bool.false_and] at hhas
   have HNO:=aa (HNX.out hhas);clear hhas;go_wp2_with fail;go_roundw
   case rel=>exact⟨n+1,by omega,by go_num,HNO,B2⟩
   case measure=>simp[intOf];omega
  rw[decide_eq_true c1,decide_eq_true c2,Bool.true_and,Bool.true_and] at hhas;have HHS:=aa hhas;clear hhas HH;go_wp2_with fail;refine(HP1.out _).mono ?_;rintro e w5 ⟨rfl,hb5⟩;have B5:=bU B2 hb5;have X5:=aa (ac hb5 (lt_of_block X2.out) X2.out);clear hb5 kx kr X2 B2;have kx:=HXB.out w5 B5.out;have kr:=ak X5.out;unfold Par.vals at kr;have ky:=HY1.out w5 B5.out;have hhas:=HHS.out
  by_cases c3:v1≤s
  rotate_left
  ·rw[decide_eq_false c3,Bool.false_and] at hhas
   have HNO:=aa (HNX.out hhas);clear hhas;go_wp2_with fail;go_roundw
   case rel=>exact⟨n+1,by omega,by go_num,HNO,B5⟩
   case measure=>simp[intOf];omega
  rw[decide_eq_true c3,Bool.true_and] at hhas;have HHS2:=aa hhas;clear hhas HHS;go_wp2_with fail;refine(HP2.out _).mono ?_;rintro e w6 ⟨rfl,hb6⟩;have B6:=bU B5 hb6;clear hb6 kx kr X5 B5 ky;have ky:=HY2.out w6 B6.out;have hhas:=HHS2.out
  by_cases c4:s<v2
  rotate_left
  ·rw[decide_eq_false c4] at hhas
   have HNO:=aa (HNX.out hhas);clear hhas;go_wp2_with fail;go_roundw
   case rel=>exact⟨n+1,by omega,by go_num,HNO,B6⟩
   case measure=>simp[intOf];omega
  rw[decide_eq_true c4] at hhas;have hq:=HQ2.out;rw[HFN.out hhas] at hq;cases hq;clear hhas;go_wp2_with fail;go_ret2;exact⟨rfl,bB B0.out B6.out⟩
def mayQ (F:Fld) (l:List Rcd) (k s:Int) (p:Par):Bool :=
 decide (gT F l (eX F p.south k)≤s)&&decide (s<eF F l (eX F (p.south+1) k))&&decide (0<aF (bj F) (aj F l) (eX F p.south k) (eX F (p.south+1) k))
theorem mayW_any (w:World) (b:Nat) (y:WV) (F:Fld) (l:List Rcd) (n:Nat) (k s:Int) (h:WAt w b y F l) (hn:n<F.prs.length) (hg:cX F l) (ha:bi F l=true) (hs:aY F k=true) :
 Calls prog 122 #[.pointer (some ⟨b,0,none⟩),.int .i64 (n:Int),.int .i64 k,.int .i64 s] w fun e w'=>e=.returned (.bool (mayQ F l k s (cN F n)))∧Below w.heap.size w w':=by
 obtain⟨hl1,hl2⟩:=zS hg.fld (par_mem hn);have hb1:=dZ.1 hl1;have fl:=(bb hg.fld).2.1;have a:=kh hl1 hs;have c:=kh hl2 hs;have pl:=iC hg.fld;have HSD:=aa (ur w b y F l n k h hn (by omega));have HP1:=aa (fun W (hw:WAt W b y F l)=>ir W b y F l (cN F n).south k hw hg.fld hl1 hs);have HP2:=aa (fun W (hw:WAt W b y F l)=>ir W b y F l ((cN F n).south+1) k hw hg.fld hl2 hs)
 have HDI:=aa (fun W (hw:WAt W b y F l)=>(by
  have:=distance_any W (bj F) y.o y.c (aj F l) (eX F (cN F n).south k) (eX F ((cN F n).south+1) k) (by unfold bK;omega) (Nat.le_trans hw.cap.1 hw.cap.2) hw.bnd;rw[distance_eq hg ha a.2.1 c.2.1] at this
  exact this))
 have HHI:=aa (fun W (hw:WAt W b y F l)=>yu W b y F l ((cN F n).south+1) k hw hg ha hl2 hs);have HLO:=aa (fun W (hw:WAt W b y F l)=>zh W b y F l (cN F n).south k hw hg ha hl1 hs);have HW:=aa h;unfold mayQ;obtain⟨lo,hlo⟩:=ag (gT F l (eX F (cN F n).south k));obtain⟨hi,hhi⟩:=ag (eF F l (eX F ((cN F n).south+1) k));obtain⟨D,hD⟩:=ag (aF (bj F) (aj F l) (eX F (cN F n).south k) (eX F ((cN F n).south+1) k));obtain⟨p1,hp1⟩:∃v:Int,((eX F (cN F n).south k:Nat):Int)=v:=⟨_,rfl⟩;obtain⟨p2,hp2⟩:∃v:Int,((eX F ((cN F n).south+1) k:Nat):Int)=v:=⟨_,rfl⟩;obtain⟨p,hp⟩:=ag ((cN F n).south);rw[hlo,hhi,hD];rw[hlo] at HLO;rw[hhi] at HHI;rw[hD,hp1,hp2] at HDI;rw[hp1] at HP1;rw[hp2] at HP2;rw[hp] at HSD HP1 HP2 HHI HLO;have HKX:=aa (fun W (hw:WAt W b y F l)=>ak hw.box);unfold WV.arr at HKX;obtain⟨P,hP⟩:∃P:Int,((bj F:Nat):Int)=P:=⟨_,rfl⟩;obtain⟨LN,hLN⟩:=ag ((aj F l).length);rw[hP,hLN] at HDI HKX;clear hl1 hl2 hb1 fl a c pl hlo hhi hD hp1 hp2 hp hP hLN h hn hg ha hs;go_enter func122,ntmps122;go_wp2_with fail;refine HSD.out.mono ?_;rintro e w1 ⟨rfl,hb1⟩;have B1:=aa hb1;have W1:=aa (HW.out.next hb1);clear hb1 HSD HW
 have HK:=aa (show Kb [(w1.heap.size+1,.cells #[.int .i64 0,.int .i64 0] 30),(w1.heap.size,.cells #[.int .i64 0,.int .i64 0] 30)] ((w1.alloc (.cells #[.int .i64 0,.int .i64 0] 30)).alloc (.cells #[.int .i64 0,.int .i64 0] 30)) by
  have:=Kb.alloc (o:=.cells #[.int .i64 0,.int .i64 0] 30) (Kb.alloc (W:=w1) (o:=.cells #[.int .i64 0,.int .i64 0] 30) (L:=[]) trivial)
  simpa using this)
 go_upto_region 2 with (first|(refine wpList_store_row rfl 30 _ _ rfl w1.heap.size #[.int .i64 p,.int .i64 k] rfl rfl 30 _ HK.out.2.1 (by kernel_rfl) rfl (by simp[Value.oneCell']) ?_)|(refine wpList_store_row rfl 30 _ _ rfl (w1.heap.size+1) #[.int .i64 (p+1),.int .i64 k] rfl rfl 30 _ ((setRow_other _ _ _ _ (by omega)).trans HK.out.1) (by kernel_rfl) rfl (by simp[Value.oneCell']) ?_));refine mj ?_;intro W3 hW3;have XP:=aa (show W3.heap[w1.heap.size]?=some (.cells #[.int .i64 p,.int .i64 k] 30 (0,0)) by rw[hW3];exact(setRow_other _ _ _ _ (by omega)).trans (setRow_heap _ _ _ _ _ _ HK.out.2.1));have XQ:=aa (show W3.heap[w1.heap.size+1]?=some (.cells #[.int .i64 (p+1),.int .i64 k] 30 (0,0)) by rw[hW3];exact setRow_heap _ _ _ _ _ _ ((setRow_other _ _ _ _ (by omega)).trans HK.out.1))
 have hb3:Below w1.heap.size w1 W3:=by
  rw[hW3];exact below_setRow (below_setRow ((aD).alloc (by simp) _) (Nat.le_refl w1.heap.size) _) (Nat.le_succ w1.heap.size) _
 have B3:=bU B1 hb3;have W3A:=aa (W1.out.next hb3);obtain⟨A,hA⟩:=ag w1.heap.size;rw[hA] at XP XQ ⊢;simp only[Act.put];clear hW3 hb3 HK hA B1 W1;have HP1':=aa (fun V (hV:Below W3.heap.size W3 V)=>HP1.out V (W3A.out.next hV));have HP2':=aa (fun V (hV:Below W3.heap.size W3 V)=>HP2.out V (W3A.out.next hV));have HDI':=aa (fun V (hV:Below W3.heap.size W3 V)=>HDI.out V (W3A.out.next hV));clear HP1 HP2 HDI;refine aJ (S:=Below W3.heap.size W3) (last:=100) (by kernel_rfl) ?_;obtain⟨W0,hW0⟩:∃W,W=W3.drew:=⟨_,rfl⟩
 have hS0:Below W3.heap.size W3 W0:=by rw[hW0];exact(Below.refl _ _).drew
 rw[←hW0];clear hW0;refine aR 0 22 (.pointer (some ⟨b,0,none⟩)) hS0 ?_;(try simp only[s3]);refine aR 1 23 (.pointer (some ⟨b,0,none⟩)) hS0 ?_;(try simp only[s3]);refine aR 2 24 (.pointer (some ⟨b,0,none⟩)) hS0 ?_;(try simp only[s3]);refine tf 3 25 (.agg #[.int .i64 P,.slice y.o LN y.c]) hS0 (fun V hV=>?_) ?_
 ·(have z0:V.cell? ⟨b,0,none⟩=some (.int .i64 P):=(HKX.out V (W3A.out.next hV) 0).trans rfl;have z1:V.cell? ⟨b,1,none⟩=some (.slice y.o LN y.c):=(HKX.out V (W3A.out.next hV) 1).trans rfl;simp[go_sem,execOp,z0,z1])
 (try simp only[s3]);refine aR 4 26 (.pointer (some ⟨b,0,none⟩)) hS0 ?_;(try simp only[s3]);refine tf 5 27 (.agg #[.int .i64 p,.int .i64 k]) hS0 (fun V hV=>?_) ?_
 ·exact gp rfl rfl (ac hV (lt_of_block XP.out) XP.out) underlying30 rfl (by kernel_rfl)
 (try simp only[s3]);refine aR 7 29 (.pointer (some ⟨b,0,none⟩)) hS0 ?_;(try simp only[s3]);refine tf 8 30 (.agg #[.int .i64 (p+1),.int .i64 k]) hS0 (fun V hV=>?_) ?_
 ·exact gp rfl rfl (ac hV (lt_of_block XQ.out) XQ.out) underlying30 rfl (by kernel_rfl)
 (try simp only[s3]);refine ae 6 rfl (by kernel_rfl) (fun K hK=>?_);go_simp;go_at_call 83;refine(HP1'.out _ hS0).mono ?_;rintro e wq1 ⟨rfl,hb1⟩;have hS1:Below W3.heap.size W3 wq1:=bB hS0 hb1;clear hb1;go_wp2_with fail;refine hK.out _ _ (.inr hS1) ?_;clear hK K;(try simp only[Act.put,s3]);refine ae 9 rfl (by kernel_rfl) (fun K hK=>?_);go_simp;go_at_call 83;refine(HP2'.out _ hS1).mono ?_;rintro e wq2 ⟨rfl,hb2⟩;have hS2:Below W3.heap.size W3 wq2:=bB hS1 hb2;clear hb2;go_wp2_with fail;refine hK.out _ _ (.inr hS2) ?_;clear hK K;(try simp only[Act.put,s3]);refine ae 10 rfl (by kernel_rfl) (fun K hK=>?_);go_simp;go_at_call 197;refine(HDI'.out _ hS2).mono ?_;rintro e wq3 ⟨rfl,hb3⟩;have hS3:Below W3.heap.size W3 wq3:=bB hS2 hb3;clear hb3;go_wp2_with fail;refine hK.out _ _ (.inr hS3) ?_;clear hK K;(try simp only[Act.put,s3]);refine aR 11 21 (.tuple #[.int .i64 D,.bool true,.int .i64 0]) hS3 ?_;(try simp only[s3]);refine aR 12 33 (.int .i64 D) hS3 ?_;(try simp only[s3]);refine aR 13 34 (.bool true) hS3 ?_;(try simp only[s3]);refine aR 14 35 (.int .i64 0) hS3 ?_;(try simp only[s3]);refine aR 15 11 (.int .i64 D) hS3 ?_;(try simp only[s3]);refine aR 16 12 (.bool true) hS3 ?_;(try simp only[s3]);refine aR 17 13 (.int .i64 0) hS3 ?_;(try simp only[s3]);refine aw (by kernel_rfl) ?_ _;have W4A:=aa (W3A.out.next hS3);have B4:=bU B3 hS3;have X4P:=aa (ac hS3 (lt_of_block XP.out) XP.out);have X4Q:=aa (ac hS3 (lt_of_block XQ.out) XQ.out);obtain⟨W4,hW4⟩:∃Z:World,Z=wq3:=⟨_,rfl⟩;rw[←hW4] at W4A B4 X4P X4Q ⊢;clear hW4 XP XQ W3A B3 HP1' HP2' HDI';have kp:=ak X4P.out;go_wp2_with fail;refine(HLO.out _ W4A.out).mono ?_;rintro e w5 ⟨rfl,hb5⟩;have W5A:=aa (W4A.out.next hb5);have B5:=bU B4 hb5;have kq:=ak (ac hb5 (lt_of_block X4Q.out) X4Q.out);clear hb5 kp HLO X4P X4Q W4A B4
 by_cases c1:lo≤s
 rotate_left
 ·have DC:=aa (decide_eq_false c1)
  go_wp2_with fail;go_ret;exact⟨by rw[DC.out];rfl,B5.out⟩
 go_wp2_with fail;refine(HHI.out _ W5A.out).mono ?_;rintro e w6 ⟨rfl,hb6⟩;have B6:=bU B5 hb6;clear hb6 kq HHI W5A B5
 by_cases c2:s<hi
 rotate_left
 ·have DC:=aa (decide_eq_false c2)
  go_wp2_with fail;go_ret;exact⟨by rw[DC.out];simp,B6.out⟩
 by_cases c3:0<D
 rotate_left
 ·have DC:=aa (decide_eq_false c3)
  go_wp2_with fail;go_ret;exact⟨by rw[DC.out];simp,B6.out⟩
 have DC:=aa (show(decide (lo≤s)&&decide (s<hi)&&decide (0<D))=true by simp[c1,c2,c3]);go_wp2_with fail;go_ret;exact⟨by rw[DC.out];rfl,B6.out⟩
theorem land1_any (W:World) (b g1 g2:Nat) (y:WV) (F:Fld) (l:List Rcd) (k s:Int) (h:WAt W b y F l) (hF:F.check=0) (hg1:W.heap[g1]?=some (.cells #[.int .i64 k] 3 (0,0))) (hg2:W.heap[g2]?=some (.cells #[.int .i64 s] 3 (0,0))) :
 Calls prog 196 #[.pointer (some ⟨b,0,none⟩),.pointer (some ⟨g1,0,none⟩),.pointer (some ⟨g2,0,none⟩)] W fun e w'=>e=.returned (.bool (aY F k&&bm s 0 99999))∧Below W.heap.size W w':=by
 have fs:=(bb hF).1;have ws:IntKind.i64.wrap ((F.sts.length:Int)-1)=(F.sts.length:Int)-1:=IntWalk.i64_in _ (by omega);have H1:=aa (fun W=>fK k 0 ((F.sts.length:Int)-1) W);have H2:=aa (fun W=>fK s 0 99999 W);unfold aY;obtain⟨p,hp⟩:=ag (bm k 0 ((F.sts.length:Int)-1));obtain⟨q,hq⟩:=ag (bm s 0 99999);rw[hp] at H1 ⊢;rw[hq] at H2 ⊢;have HX:=h;have G1:=aa hg1;have G2:=aa hg2;clear hp hq h hF hg1 hg2 fs;have hS0:Below W.heap.size W W.drew:=(Below.refl _ _).drew;go_enter func196,ntmps196;go_upto_region 1 with fail
 cases p with
 | false =>
   refine aJ (S:=Below W.heap.size W) (last:=100) (by kernel_rfl) ?_;refine tf 0 5 (.int .i64 k) hS0 (fun V hV=>?_) ?_
   ·(have z:V.cell? ⟨g1,0,none⟩=some (.int .i64 k):=ce (i:=0) (ac hV (lt_of_block G1.out) G1.out) rfl;simp[go_sem,execOp,z])
   (try simp only[s3]);refine aR 1 6 (.pointer (some ⟨b,0,none⟩)) hS0 ?_;(try simp only[s3]);refine aR 2 7 (.pointer (some ⟨b,0,none⟩)) hS0 ?_;(try simp only[s3]);refine aR 3 8 (.pointer (some ⟨b,2,none⟩)) hS0 ?_;(try simp only[s3]);refine aR 4 9 (.pointer (some ⟨b,2,none⟩)) hS0 ?_;(try simp only[s3]);refine tf 5 10 (.slice y.x.aS F.sts.length y.x.cS) hS0 (fun V hV=>?_) ?_
   ·(have z:V.cell? ⟨b,2,none⟩=some (.slice y.x.aS F.sts.length y.x.cS):=ce (i:=2) (ac hV HX.lt HX.box) rfl;simp[go_sem,execOp,z])
   (try simp only[s3]);refine aR 6 11 (.int .i64 ((F.sts.length:Int))) hS0 ?_;(try simp only[s3]);refine tf 7 12 (.int .i64 ((F.sts.length:Int)-1)) hS0 (fun V hV=>?_) ?_
   ·simp[go_sem,execOp,ws]
   (try simp only[s3]);refine ae 8 rfl (by kernel_rfl) (fun K hK=>?_);go_simp;go_at_call 102;refine(H1.out _).mono ?_;rintro e wq ⟨rfl,rfl⟩;have hS1:=hS0;go_wp2_with fail;refine hK.out _ _ (.inr hS1) ?_;clear hK K;(try simp only[Act.put,s3]);refine aR 9 14 (.bool false) hS1 ?_;(try simp only[s3]);refine tO 10 15 rfl (by kernel_rfl) rfl (fun _ _ _ h=>h) hS1 ?_;(try simp only[s3]);refine tO 11 16 rfl (by kernel_rfl) rfl (fun _ _ _ h=>h) hS1 ?_;(try simp only[s3]);refine aR 12 17 (.bool false) hS1 ?_;(try simp only[s3]);refine aR 13 4 (.bool false) hS1 ?_;(try simp only[s3]);refine aw (by kernel_rfl) ?_ _;go_wp2_with fail;go_ret;exact⟨by simp,hS1⟩
 | true =>
   refine aJ (S:=Below W.heap.size W) (last:=100) (by kernel_rfl) ?_;refine tf 0 5 (.int .i64 k) hS0 (fun V hV=>?_) ?_
   ·(have z:V.cell? ⟨g1,0,none⟩=some (.int .i64 k):=ce (i:=0) (ac hV (lt_of_block G1.out) G1.out) rfl;simp[go_sem,execOp,z])
   (try simp only[s3]);refine aR 1 6 (.pointer (some ⟨b,0,none⟩)) hS0 ?_;(try simp only[s3]);refine aR 2 7 (.pointer (some ⟨b,0,none⟩)) hS0 ?_;(try simp only[s3]);refine aR 3 8 (.pointer (some ⟨b,2,none⟩)) hS0 ?_;(try simp only[s3]);refine aR 4 9 (.pointer (some ⟨b,2,none⟩)) hS0 ?_;(try simp only[s3]);refine tf 5 10 (.slice y.x.aS F.sts.length y.x.cS) hS0 (fun V hV=>?_) ?_
   ·(have z:V.cell? ⟨b,2,none⟩=some (.slice y.x.aS F.sts.length y.x.cS):=ce (i:=2) (ac hV HX.lt HX.box) rfl;simp[go_sem,execOp,z])
   (try simp only[s3]);refine aR 6 11 (.int .i64 ((F.sts.length:Int))) hS0 ?_;(try simp only[s3]);refine tf 7 12 (.int .i64 ((F.sts.length:Int)-1)) hS0 (fun V hV=>?_) ?_
   ·simp[go_sem,execOp,ws]
   (try simp only[s3]);refine ae 8 rfl (by kernel_rfl) (fun K hK=>?_);go_simp;go_at_call 102;refine(H1.out _).mono ?_;rintro e wq ⟨rfl,rfl⟩;have hS1:=hS0;go_wp2_with fail;refine hK.out _ _ (.inr hS1) ?_;clear hK K;(try simp only[Act.put,s3]);refine aR 9 14 (.bool true) hS1 ?_;(try simp only[s3]);refine tf 10 15 (.int .i64 s) hS1 (fun V hV=>?_) ?_
   ·(have z:V.cell? ⟨g2,0,none⟩=some (.int .i64 s):=ce (i:=0) (ac hV (lt_of_block G2.out) G2.out) rfl;simp[go_sem,execOp,z])
   (try simp only[s3]);refine ae 11 rfl (by kernel_rfl) (fun K hK=>?_);go_simp;go_at_call 102;refine(H2.out _).mono ?_;rintro e wq ⟨rfl,rfl⟩;have hS2:=hS1;go_wp2_with fail;refine hK.out _ _ (.inr hS2) ?_;clear hK K;(try simp only[Act.put,s3]);refine aR 12 17 (.bool q) hS2 ?_;(try simp only[s3]);refine aR 13 4 (.bool q) hS2 ?_;(try simp only[s3]);refine aw (by kernel_rfl) ?_ _;go_wp2_with fail;go_ret;exact⟨by simp,hS2⟩
theorem land_any (w:World) (x:FV) (F:Fld) (ar:Option Addr) (cr:Nat) (l:List Rcd) (k s:Int) (h:FldAt w x F) (hr:cI w ar l) (hn:l.length≤100000) (hk:∀r∈l,(0≤r.call.kind∧r.call.kind≤255)∧r.deed.size≤9223372036854775807) :
 Calls prog 120 #[x.val F,.slice ar l.length cr,.int .i64 k,.int .i64 s] w fun e w'=>cJ w x F ar cr l (aW F l (bq (aY F k&&bm s 0 99999))) e w'∧Below w.heap.size w w':=by
 obtain⟨w0,hw0⟩:∃W,W=((w.alloc (.cells (x.arr F) 27)).alloc (.cells #[.int .i64 k] 3)).alloc (.cells #[.int .i64 s] 3):=⟨_,rfl⟩;have B0:=aa (show Below w.heap.size w w0 by rw[hw0];exact((aD).alloc (by simp) _).alloc (by simp;omega) _)
 have X0:=aa (show Kb [(w.heap.size+1+1,.cells #[.int .i64 s] 3),(w.heap.size+1,.cells #[.int .i64 k] 3),(w.heap.size,.cells (x.arr F) 27)] w0 by
  rw[hw0];have:=Kb.alloc (o:=.cells #[.int .i64 s] 3) (Kb.alloc (o:=.cells #[.int .i64 k] 3) (Kb.alloc (W:=w) (o:=.cells (x.arr F) 27) (L:=[]) trivial))
  simpa using this)
 have HA:=aa (eT w0 x F ar cr l (h.below B0.out) (hr.below B0.out (Nat.le_refl _)) hn hk 196 #[.pointer (some ⟨w.heap.size+1,0,none⟩),.pointer (some ⟨w.heap.size+1+1,0,none⟩)] (aY F k&&bm s 0 99999) (enters_of func196 (by kernel_rfl) rfl)
  (fun hg W b o c hw hb=>land1_any W b (w.heap.size+1) (w.heap.size+1+1) _ F l k s hw hg.fld (ac hb (lt_of_block X0.out.2.1) X0.out.2.1) (ac hb (lt_of_block X0.out.1) X0.out.1)))
 obtain⟨M,hM⟩:=ag (aW F l (bq (aY F k&&bm s 0 99999)));rw[hM] at HA ⊢;have kk:=ak X0.out.2.2.1;clear hM h hr hn hk
 unfold FV.val FV.arr at *
 go_enter func120,ntmps120;go_upto_region 1 with fail;rw[←hw0];clear hw0;go_wp2_with fail;refine HA.out.mono ?_;rintro e w1 ⟨hp,hb1⟩;have B1:=bU B0 hb1;have HSZ:=aa B0.out.size;clear hb1 HA kk X0;unfold cJ at hp
 by_cases h0:M=0
 rotate_left
 ·rw[if_neg h0] at hp
  obtain⟨v,rfl⟩:=hp;have H0:=aa h0;clear h0;go_wp2_with fail;refine bodyPost_ret (v:=.tuple #[v,.int .i64 M]) (by simp[results,results120,go_sem]) rfl ⟨by unfold cJ;rw[if_neg H0.out];exact⟨_,rfl⟩,B1.out⟩
 subst h0;rw[if_pos rfl] at hp;obtain⟨b,o,c,rfl,hw,hb,ho⟩:=hp;have HW:=aa hw;have HB:=aa hb;have HO:=aa ho;clear hw hb ho;go_wp2_with fail;refine bodyPost_ret (v:=.tuple #[.pointer (some ⟨b,0,none⟩),.int .i64 0]) (by simp[results,results120,go_sem]) rfl ⟨by unfold cJ;rw[if_pos rfl];exact⟨b,o,c,rfl,HW.out,Nat.le_trans HSZ.out HB.out,fun q e=>Nat.le_trans HSZ.out (HO.out q e)⟩,B1.out⟩
def drwB (F:Fld) (l:List Rcd) (y:List Int):Bool:=(keptE (bj F) (aj F l) y).2.1&&decide ((keptE (bj F) (aj F l) y).2.2=0)
def drawE (F:Fld) (l:List Rcd) (y:List Int):Bool×Int:=if(cm F l).2≠0 then(false,(cm F l).2) else(drwB F l y,0)
theorem drawing_any (w:World) (b:Nat) (v:WV) (F:Fld) (l:List Rcd) (h:WAt w b v F l) (hF:F.check=0) (a2:Option Addr) (c2:Nat) (y:List Int) (hl:y.length≤9223372036854775807) (h2:IntsAt w a2 y) :
 Calls prog 125 #[.pointer (some ⟨b,0,none⟩),.slice a2 y.length c2] w fun e w'=>e=.returned (.bool (drwB F l y))∧Below w.heap.size w w':=by
 have HK:=aa (kept_any w (bj F) v.o v.c (aj F l) a2 c2 y (qx hF) (Nat.le_trans h.cap.1 h.cap.2) hl h.bnd h2);unfold drwB;obtain⟨⟨k1,k2,k3⟩,hk⟩:=ag (keptE (bj F) (aj F l) y);rw[hk] at HK ⊢;have kx:=ak h.box;unfold WV.arr at kx;obtain⟨P,hP⟩:∃P:Int,((bj F:Nat):Int)=P:=⟨_,rfl⟩;obtain⟨LN,hLN⟩:=ag ((aj F l).length);obtain⟨LY,hLY⟩:=ag y.length;rw[hP,hLN] at kx HK;rw[hLY] at HK ⊢;clear hP hLN hLY hk h hF hl h2;go_enter func125,ntmps125;go_wp2_with fail;refine HK.out.mono ?_;rintro e w1 ⟨rfl,hb1⟩;have B1:=aa hb1;clear hb1 kx HK;cases k2
 ·go_wp2_with fail
  go_ret;exact⟨rfl,B1.out⟩
 ·by_cases h3:k3=0
  ·subst h3
   go_wp2_with fail;go_ret;exact⟨rfl,B1.out⟩
  ·have z:(k3==0)=false:=by simpa using h3
   have HZ:=aa (show decide (k3=0)=false by simpa using h3);clear h3;go_wp2_with fail;go_ret;exact⟨by rw[HZ.out];rfl,B1.out⟩
theorem drawL_any (w:World) (x:FV) (F:Fld) (ar:Option Addr) (cr:Nat) (l:List Rcd) (h:FldAt w x F) (hr:cI w ar l) (hn:l.length≤100000) (hk:∀r∈l,(0≤r.call.kind∧r.call.kind≤255)∧r.deed.size≤9223372036854775807)
 (a2:Option Addr) (c2:Nat) (y:List Int) (hl:y.length≤9223372036854775807) (h2:IntsAt w a2 y) :
 Calls prog 59 #[x.val F,.slice ar l.length cr,.slice a2 y.length c2] w fun e w'=>e=.returned (.tuple #[.bool (drawE F l y).1,.int .i64 (drawE F l y).2])∧Below w.heap.size w w':=by
 obtain⟨w0,hw0⟩:∃W,W=w.alloc (.cells (x.arr F) 27):=⟨_,rfl⟩;have B0:=aa (show Below w.heap.size w w0 by rw[hw0];exact aD);have X0:=aa (show w0.heap[w.heap.size]?=some (.cells (x.arr F) 27 (0,0)) by rw[hw0];exact heap_alloc_new _ _);have HC:=aa (rW w0 x F ar cr l (h.below B0.out) (hr.below B0.out (Nat.le_refl _)) hn hk);have HG:=aa (fun(q:(cm F l).2=0)=>(fM F l).1 q);have HI:=aa (h2.below B0.out (Nat.le_refl _));have HYL:=aa hl;obtain⟨⟨R1,R2⟩,hR⟩:=ag (drawE F l y);rw[hR];unfold drawE at hR;obtain⟨M,hM⟩:=ag ((cm F l).2);rw[hM] at HC HG hR;have HR:=aa hR;have kk:=ak X0.out;obtain⟨LY,hLY⟩:=ag y.length;have HLY:=aa hLY;rw[hLY];clear hM h hr hn hk hR h2 hl hLY
 unfold FV.val FV.arr at *
 go_enter func59,ntmps59;go_upto_region 1 with fail;rw[←hw0];clear hw0;go_wp2_with fail;refine HC.out.mono ?_;rintro e w1 ⟨hp,hb1⟩;have B1:=bU B0 hb1;have HI1:=aa (HI.out.below hb1 (Nat.le_refl _));clear hb1 HC X0 kk HI;unfold iY at hp
 by_cases h0:M=0
 rotate_left
 ·have hzb:(M != 0)=true:=by simpa using h0
  rw[if_neg h0] at hp;subst hp;have hq:=HR.out;rw[if_pos h0] at hq;cases hq;clear h0 HR HG;go_wp2_with fail;go_ret2;exact⟨rfl,B1.out⟩
 subst h0;rw[if_pos rfl] at hp;obtain⟨b,o,c,rfl,hw,hbl,-⟩:=hp;have hq:=HR.out;rw[if_neg (by simp)] at hq;have HD:=aa (drawing_any w1 b _ F l hw (HG.out rfl).fld a2 c2 y HYL.out HI1.out);rw[HLY.out] at HD;obtain⟨db,hdb⟩:=ag (drwB F l y);rw[hdb] at HD hq;cases hq;clear hdb hw hbl HR HG HI1 HYL HLY;go_wp2_with fail;refine HD.out.mono ?_;rintro e w2 ⟨rfl,hb2⟩;have B2:=bU B1 hb2;clear hb2 HD;go_wp2_with fail;go_ret2;exact⟨rfl,B2.out⟩
end Go.Proofs.YtkhemfnlflbniaaGreatDoor
namespace Go.Proofs.YtkhemfnlflbniaaGreatDoor
theorem natDrw_of {F:Fld} {l:List Rcd} (h:cX F l) {y:List Int} (k:Bv F l y):natDrw F y=true:=by
 have q:=(drw_calls.1 k).1;unfold natDrw inAll natKB;rw[Bool.and_eq_true,Bool.and_eq_true,Bool.and_eq_true,decide_eq_true_eq,decide_eq_true_eq,List.all_eq_true,List.all_eq_true];refine⟨q.1,q.2.1,fun v hv=>?_,fun b hb=>?_⟩
 ·obtain⟨n,hn,rfl⟩:=List.mem_iff_getElem.1 hv
  have:=drw_bd h k (p:=n) (by rw[←q.1];exact hn);rw[List.getD_eq_getElem?_getD,List.getElem?_eq_getElem hn] at this;exact dZ.2 this
 ·have:=q.2.2.2 b hb
  exact decide_eq_true (by omega)
theorem owned_flag {F:Fld} {l:List Rcd} {k s:Int} (q:aW F l (bq (aY F k&&bm s 0 99999))=0):cX F l∧bi F l=true∧aY F k=true∧0≤s∧s≤99999∧aW F l 0=0:=by
 obtain⟨g,f,a⟩:=cx.1 q;have c:=flag_zero.1 f;rw[Bool.and_eq_true] at c;have:=dZ.1 c.2;exact⟨g,a,c.1,this.1,this.2,cx.2 ⟨g,rfl,a⟩⟩
theorem owned_spec {F:Fld} {l:List Rcd} {k s:Int} (q:aW F l (bq (aY F k&&bm s 0 99999))=0) :
 (firstE F l).2=0∧(lastE F l).2=0∧(∀y,(drawE F l y).2=0) ∧
 (∀p,whoseI F l k s=some p→(ma F l (p:Int) k).2.2=0∧(ma F l (p:Int) k).1≤s∧s<(ma F l (p:Int) k).2.1∧mayTo F l k s F.prs.length=[(p:Int)]) ∧
 ∀y,(drawE F l y).1=true→(∀p,whoseI F l k s=some p→atP F k s y=((p:Int),0))∧((atP F k s y).2=5∨((atP F k s y).2=0∧(atP F k s y).1∈mayTo F l k s F.prs.length)):=by
 obtain⟨g,ha,hs,s1,s2,m0⟩:=owned_flag q;have ck9Q:=(fM F l).2 g;refine⟨by unfold firstE;rw[m0];rfl,by unfold lastE;rw[m0];rfl,fun y=>by unfold drawE;rw[ck9Q];rfl,fun p hp=>?_,fun y hy=>?_⟩
 ·obtain⟨o1,o2,o3⟩:=owned_one g ha hs hp
  have fl:aW F l (bq (bm (p:Int) 0 ((F.prs.length:Int)-1)&&aY F k))=0:=cx.2 ⟨g,by
   rw[hs,Bool.and_true]
   exact flag_zero.2 (dZ.2 ⟨by omega,by omega⟩),ha⟩
  unfold sureB at o3;simp only[Bool.and_eq_true,decide_eq_true_eq] at o3
  have e:ma F l (p:Int) k=((mI F l (cN F p) k).1,(mI F l (cN F p) k).2,0):=by
   unfold ma;rw[fl,if_neg (by simp),Int.toNat_natCast,if_neg (by rw[o3.1];simp),if_neg (by omega)]
  rw[e];refine⟨rfl,o3.2.1,by dsimp only;omega,?_⟩;unfold mayTo;have:=o2;unfold mayI at this;rw[this]
  all_goals rfl
 ·have hd:drwB F l y=true:=by
   unfold drawE at hy;rw[ck9Q,if_neg (by simp)] at hy;exact hy
  have d:=(kept_eq g y).1 hd;have nd:=natDrw_of g d;have ir9Q:bm s 0 100000=true:=dZ.2 ⟨s1,by omega⟩;have o:=owned_drw g d hs (u:=s)
  have e:atP F k s y=match hasI F y k s with|some i=>((i:Int),0)|none=>(0,5):=by
   unfold atP;rw[if_neg (by rw[g.fld];simp),hs,ir9Q,nd,if_neg (by simp)]
   all_goals(cases hasI F y k s<;>rfl)
  rw[e];refine⟨fun p hp=>by rw[o.2 p hp],?_⟩
  cases c:hasI F y k s with
  | none=>exact .inl rfl
  | some i =>
    refine .inr ⟨rfl,?_⟩;have:=o.1 i c;unfold mayI at this;unfold mayTo;exact List.mem_map.2 ⟨i,this,rfl⟩
theorem whose_may {F:Fld} {l:List Rcd} {k s:Int}:(whoseP F l k s).2.2=(mayP F l k s).2∧((mayP F l k s).2≠0→(whoseP F l k s).2.1=false∧(mayP F l k s).1=[])∧((mayP F l k s).2=0→aW F l (bq (aY F k&&bm s 0 99999))=0):=by
 unfold whoseP mayP
 by_cases q:aW F l (bq (aY F k&&bm s 0 99999))≠0
 ·rw[if_pos q,if_pos q]
  exact⟨rfl,fun _=>⟨rfl,rfl⟩,fun h=>h⟩
 ·rw[if_neg q,if_neg q]
  refine⟨?_,fun h=>absurd rfl h,fun _=>Classical.not_not.1 q⟩
  split<;>rfl
theorem owned_all {F:Fld} {l:List Rcd} {k s:Int} :
 (whoseP F l k s).2.2=(mayP F l k s).2∧((mayP F l k s).2≠0→(whoseP F l k s).2.1=false∧(mayP F l k s).1=[]) ∧
 ((mayP F l k s).2=0→((firstE F l).2=0∧(lastE F l).2=0∧(firstE F l).1.length≤128∧(lastE F l).1.length≤128∧(mayP F l k s).1.length≤40)∧(∀y,(drawE F l y).2=0) ∧
   ((whoseP F l k s).2.1=true→(ma F l (whoseP F l k s).1 k).2.2=0∧(ma F l (whoseP F l k s).1 k).1≤s∧s<(ma F l (whoseP F l k s).1 k).2.1∧(mayP F l k s).1=[(whoseP F l k s).1]) ∧
   ∀y,(drawE F l y).1=true→((whoseP F l k s).2.1=true→atP F k s y=((whoseP F l k s).1,0))∧((atP F k s y).2=5∨((atP F k s y).2=0∧(atP F k s y).1∈(mayP F l k s).1))):=by
 obtain⟨w1,w2,w3⟩:=whose_may (F:=F) (l:=l) (k:=k) (s:=s);refine⟨w1,w2,fun h=>?_⟩;have q:=w3 h;obtain⟨o1,o2,o3,o4,o59Q⟩:=owned_spec q;obtain⟨g,ha,hs,-,-,m0⟩:=owned_flag q;have d:=yS g ha;have pl:=(iC g.fld).2
 have e1:firstE F l=(xC (bj F) (aj F l),0):=by unfold firstE;rw[m0,if_neg (by simp)]
 have e2:lastE F l=(qa (bj F) (aj F l),0):=by unfold lastE;rw[m0,if_neg (by simp)]
 have em9Q:mayP F l k s=(mayTo F l k s F.prs.length,0):=by unfold mayP;rw[if_neg (by simpa using q)]
 have ml9Q:=mayTo_len F l k s F.prs.length;have fp:=(bb g.fld).2.2.1;refine⟨⟨o1,o2,by rw[e1,d.2.len];exact pl,by rw[e2,d.1.len];exact pl,by rw[em9Q];dsimp only;omega⟩,o3,?_,?_⟩
 ·intro hw
  cases c:whoseI F l k s with
  | none =>
    have:whoseP F l k s=(0,false,0):=by unfold whoseP;rw[if_neg (by simpa using q),c]
    rw[this] at hw;cases hw
  | some p =>
    have:whoseP F l k s=((p:Int),true,0):=by unfold whoseP;rw[if_neg (by simpa using q),c]
    rw[this,em9Q];exact o4 p c
 ·intro y hy
  obtain⟨a1,a2⟩:=o59Q y hy;rw[em9Q];refine⟨fun hw=>?_,a2⟩
  cases c:whoseI F l k s with
  | none =>
    have:whoseP F l k s=(0,false,0):=by unfold whoseP;rw[if_neg (by simpa using q),c]
    rw[this] at hw;cases hw
  | some p =>
    have:whoseP F l k s=((p:Int),true,0):=by unfold whoseP;rw[if_neg (by simpa using q),c]
    rw[this];exact a1 p c
end Go.Proofs.YtkhemfnlflbniaaGreatDoor
namespace Go.Proofs.YtkhemfnlflbniaaGreatDoor
open Go Go.RowKit Go.Shelf Go.Proofs.Tryz
theorem whoseL_any (w:World) (x:FV) (F:Fld) (ar:Option Addr) (cr:Nat) (l:List Rcd) (k s:Int) (h:FldAt w x F) (hr:cI w ar l) (hn:l.length≤100000) (hk:∀r∈l,(0≤r.call.kind∧r.call.kind≤255)∧r.deed.size≤9223372036854775807) :
 Calls prog 53 #[x.val F,.slice ar l.length cr,.int .i64 k,.int .i64 s] w fun e w'=>e=.returned (.tuple #[.int .i64 (whoseP F l k s).1,.bool (whoseP F l k s).2.1,.int .i64 (whoseP F l k s).2.2])∧Below w.heap.size w w':=by
 obtain⟨w0,hw0⟩:∃W,W=w.alloc (.cells (x.arr F) 27):=⟨_,rfl⟩;have B0:=aa (show Below w.heap.size w w0 by rw[hw0];exact aD);have X0:=aa (show w0.heap[w.heap.size]?=some (.cells (x.arr F) 27 (0,0)) by rw[hw0];exact heap_alloc_new _ _);have HA:=aa (land_any w0 x F ar cr l k s (h.below B0.out) (hr.below B0.out (Nat.le_refl _)) hn hk);obtain⟨⟨R1,R2,R3⟩,hR⟩:=ag (whoseP F l k s);rw[hR];unfold whoseP at hR;have HMZ:=aa (fun(q:aW F l (bq (aY F k&&bm s 0 99999))=0)=>owned_flag q);obtain⟨M,hM⟩:=ag (aW F l (bq (aY F k&&bm s 0 99999)));rw[hM] at HA hR HMZ;have HR:=aa hR;have kk:=ak X0.out;clear hM h hr hn hk hR
 unfold FV.val FV.arr at *
 go_enter func53,ntmps53;go_upto_region 1 with fail;rw[←hw0];clear hw0;go_wp2_with fail;refine HA.out.mono ?_;rintro e w1 ⟨hp,hb1⟩;have B1:=bU B0 hb1;clear hb1 HA kk X0;unfold cJ at hp;have hq:=HR.out
 by_cases h0:M=0
 rotate_left
 ·have hzb:(M != 0)=true:=by simpa using h0
  rw[if_neg h0] at hp;rw[if_pos h0] at hq;obtain⟨v,rfl⟩:=hp;cases hq;clear h0 HR HMZ;go_wp2_with fail;refine bodyPost_ret (by simp[results,results53,go_sem]) rfl ⟨rfl,B1.out⟩
 subst h0;rw[if_pos rfl] at hp;rw[if_neg (by simp)] at hq;obtain⟨b,o,c,rfl,hw,hbl⟩:=hp;obtain⟨q1,q3,q5,s1,s2,-⟩:=HMZ.out rfl;have HQ:=aa hq;have HTH:=aa (fun W (hb:Below w1.heap.size w1 W) n (hn:n<F.prs.length)=>vo W b _ F l n k (hw.next hb) hn);have HSU:=aa (fun W (hb:Below w1.heap.size w1 W) n (hn:n<F.prs.length)=>wT W b _ F l n k (hw.next hb) hn q1 q3 q5);have HLP:=aa (bb q1.fld).2.2.1;have ws:IntKind.i64.wrap (s+1)=s+1:=IntWalk.i64_in _ (by omega);have kx:=ak hw.box;unfold WV.arr at kx;clear hq hw hbl HMZ HR q1 q3 q5;go_upto_region 5 with fail;clear kx
 go_loopw [33] (fun p wr=>∃(n:Nat),n≤F.prs.length∧p=.int .i64 (n:Int)∧Hid (∀j,j<n→sureB F l k s (cN F j)=false)∧Hid (Below w1.heap.size w1 wr)) (fun p _=>F.prs.length-(intOf p).toNat)
 case atStart=>exact⟨0,Nat.zero_le _,rfl,aa (fun j q=>by omega),aa (Below.refl _ _)⟩
 case round =>
  obtain⟨n,hn,rfl,HPV,HB⟩:=hrel;have hlp:=HLP.out
  by_cases hlt:n<F.prs.length
  rotate_left
  ·obtain rfl:n=F.prs.length:=by omega
   have hq:=HQ.out
   have e:whoseI F l k s=none:=by unfold whoseI;exact find_not HPV.out
   rw[e] at hq;cases hq;go_wp2_with fail;refine bodyPost_ret (by simp[results,results53,go_sem]) rfl ⟨rfl,bB B1.out HB.out⟩
  have HT:=aa (HTH.out wr HB.out n hlt);have HS:=aa (fun W hb=>HSU.out W hb n hlt);have HH:=aa (show sureB F l k s (cN F n)=(rf (cN F n) k&&(decide ((mI F l (cN F n) k).1≤s)&&decide (s+1≤(mI F l (cN F n) k).2))) from rfl)
  have HNX:=aa (fun(q:sureB F l k s (cN F n)=false) j (hj:j<n+1)=>(by
   rcases Nat.lt_succ_iff_lt_or_eq.1 hj with e|e
   ·exact HPV.out j e
   ·rw[e];exact q:sureB F l k s (cN F j)=false))
  have HFN:=aa (fun(q:sureB F l k s (cN F n)=true)=>(by unfold whoseI;exact find_at hlt HPV.out q:whoseI F l k s=some n));obtain⟨S,hS⟩:=ag (sureB F l k s (cN F n));obtain⟨tb,htb⟩:=ag (rf (cN F n) k);obtain⟨⟨v1,v2⟩,hv⟩:=ag (mI F l (cN F n) k);rw[hS,htb,hv] at HH;rw[hS] at HNX HFN;rw[htb] at HT;rw[hv] at HS;dsimp only at HH HS;clear hS htb hv;go_wp2_with fail;refine HT.out.mono ?_;rintro e w2 ⟨rfl,hb2⟩;have B2:=bU HB hb2;clear hb2 HT;have hh:=HH.out;cases tb
  ·rw[Bool.false_and] at hh
   have HNO:=aa (HNX.out hh);clear hh HB;go_wp2_with fail;go_roundw
   case rel=>exact⟨n+1,by omega,by go_num,HNO,B2⟩
   case measure=>simp[intOf];omega
  rw[Bool.true_and] at hh;have HH2:=aa hh;clear hh HH HB;go_wp2_with fail;refine(HS.out _ B2.out).mono ?_;rintro e w3 ⟨rfl,hb3⟩;have B3:=bU B2 hb3;clear hb3 HS B2;have hh:=HH2.out
  by_cases c1:v1≤s
  rotate_left
  ·rw[decide_eq_false c1,Bool.false_and] at hh
   have HNO:=aa (HNX.out hh);clear hh;go_wp2_with fail;go_roundw
   case rel=>exact⟨n+1,by omega,by go_num,HNO,B3⟩
   case measure=>simp[intOf];omega
  by_cases c2:s+1≤v2
  rotate_left
  ·rw[decide_eq_false c2,Bool.and_false] at hh
   have HNO:=aa (HNX.out hh);clear hh;go_wp2_with fail;go_roundw
   case rel=>exact⟨n+1,by omega,by go_num,HNO,B3⟩
   case measure=>simp[intOf];omega
  rw[decide_eq_true c1,decide_eq_true c2,Bool.true_and] at hh;have hq:=HQ.out;rw[HFN.out hh] at hq;cases hq;clear hh;go_wp2_with fail;refine bodyPost_ret (by simp[results,results53,go_sem]) rfl ⟨rfl,bB B1.out B3.out⟩
theorem mayL_any (w:World) (x:FV) (F:Fld) (ar:Option Addr) (cr:Nat) (l:List Rcd) (k s:Int) (h:FldAt w x F) (hr:cI w ar l) (hn:l.length≤100000) (hk:∀r∈l,(0≤r.call.kind∧r.call.kind≤255)∧r.deed.size≤9223372036854775807) :
 Calls prog 55 #[x.val F,.slice ar l.length cr,.int .i64 k,.int .i64 s] w fun e w'=>iN (mayP F l k s).1 (mayP F l k s).2 w.heap.size e w'∧Below w.heap.size w w':=by
 obtain⟨w0,hw0⟩:∃W,W=w.alloc (.cells (x.arr F) 27):=⟨_,rfl⟩;have B0:=aa (show Below w.heap.size w w0 by rw[hw0];exact aD);have X0:=aa (show w0.heap[w.heap.size]?=some (.cells (x.arr F) 27 (0,0)) by rw[hw0];exact heap_alloc_new _ _);have HA:=aa (land_any w0 x F ar cr l k s (h.below B0.out) (hr.below B0.out (Nat.le_refl _)) hn hk);obtain⟨⟨R1,R2⟩,hR⟩:=ag (mayP F l k s);rw[hR];unfold mayP at hR;have HMZ:=aa (fun(q:aW F l (bq (aY F k&&bm s 0 99999))=0)=>owned_flag q);obtain⟨M,hM⟩:=ag (aW F l (bq (aY F k&&bm s 0 99999)));rw[hM] at HA hR HMZ;have HR:=aa hR;have kk:=ak X0.out;clear hM h hr hn hk hR
 unfold FV.val FV.arr at *
 go_enter func55,ntmps55;go_upto_region 1 with fail;rw[←hw0];clear hw0;go_wp2_with fail;refine HA.out.mono ?_;rintro e w1 ⟨hp,hb1⟩;have B1:=bU B0 hb1;clear hb1 HA kk X0;unfold cJ at hp;have hq:=HR.out
 by_cases h0:M=0
 rotate_left
 ·have hzb:(M != 0)=true:=by simpa using h0
  rw[if_neg h0] at hp;rw[if_pos h0] at hq;obtain⟨v,rfl⟩:=hp;cases hq;clear h0 HR HMZ;go_wp2_with fail;refine bodyPost_ret (v:=.tuple #[.slice none 0 0,.int .i64 R2]) (by simp[results,results55,go_sem]) rfl ⟨⟨_,rfl,World.ownsRow_nil _ _ _ _⟩,B1.out⟩
 subst h0;rw[if_pos rfl] at hp;rw[if_neg (by simp)] at hq;obtain⟨b,o,c,rfl,hw,hbl⟩:=hp;obtain⟨q1,q3,q5,s1,s2,-⟩:=HMZ.out rfl;cases hq;have HTH:=aa (fun W (hb:Below w1.heap.size w1 W) n (hn:n<F.prs.length)=>vo W b _ F l n k (hw.next hb) hn);have HMA:=aa (fun W (hb:Below w1.heap.size w1 W) n (hn:n<F.prs.length)=>mayW_any W b _ F l n k s (hw.next hb) hn q1 q3 q5);have HLP:=aa (bb q1.fld).2.2.1;have kx:=ak hw.box;unfold WV.arr at kx;clear hw hbl HMZ HR q1 q3 q5 s1 s2;go_upto_region 6 with fail;clear kx
 go_loopw [12,31] (fun v p wr=>∃(n:Nat),n≤F.prs.length∧p=.int .i64 (n:Int)∧Hid (wr.ownsRow w1.heap.size 3 1 v (mayTo F l k s n).length (ay (mayTo F l k s n)))∧Hid (Below w1.heap.size w1 wr)) (fun _ p _=>F.prs.length-(intOf p).toNat)
 case atStart=>exact⟨0,Nat.zero_le _,rfl,aa (World.ownsRow_nil _ _ _ _),aa (Below.refl _ _)⟩
 case round =>
  obtain⟨n,hn,rfl,HO,HB⟩:=hrel;have hlp:=HLP.out
  by_cases hlt:n<F.prs.length
  rotate_left
  ·obtain rfl:n=F.prs.length:=by omega
   go_wp2_with fail;refine bodyPost_ret (v:=.tuple #[u12,.int .i64 0]) (by simp[results,results55,go_sem]) rfl ⟨⟨_,rfl,bF HO.out B1.out.size⟩,bB B1.out HB.out⟩
  have HT:=aa (HTH.out wr HB.out n hlt);have HM:=aa (fun W hb=>HMA.out W hb n hlt);have HS:=aa (mayTo_succ F l k s n);have HL:=aa (mayTo_len F l k s n);have HH:=aa (show mayB F l k s (cN F n)=(rf (cN F n) k&&mayQ F l k s (cN F n)) from rfl);obtain⟨tb,htb⟩:=ag (rf (cN F n) k);obtain⟨mq9Q,hmq⟩:=ag (mayQ F l k s (cN F n));rw[htb,hmq] at HH;rw[htb] at HT;rw[hmq] at HM;rw[HH.out] at HS;clear htb hmq HH;go_wp2_with fail;refine HT.out.mono ?_;rintro e w2 ⟨rfl,hb2⟩;have B2:=bU HB hb2;have HO2:=aa (gH HO.out hb2);clear hb2 HT HB HO;have hS:=HS.out;cases tb
  ·rw[Bool.false_and,if_neg (by simp),List.append_nil] at hS
   rw[←hS] at HO2;go_wp2_with fail;go_roundw
   case rel=>exact⟨n+1,by omega,by go_num,HO2,B2⟩
   case measure=>simp[intOf];omega
  rw[Bool.true_and] at hS;have HS2:=aa hS;clear hS HS;go_wp2_with fail;refine(HM.out _ B2.out).mono ?_;rintro e w3 ⟨rfl,hb3⟩;have B3:=bU B2 hb3;have HO3:=aa (gH HO2.out hb3);clear hb3 HM B2 HO2;have hS:=HS2.out;cases mq9Q
  ·rw[if_neg (by simp),List.append_nil] at hS
   rw[←hS] at HO3;go_wp2_with fail;go_roundw
   case rel=>exact⟨n+1,by omega,by go_num,HO3,B3⟩
   case measure=>simp[intOf];omega
  ·rw[if_pos rfl] at hS
   obtain⟨v',W5,hrun,ho5,hb5,-⟩:=vE HO3.out (n:Int) (by have:=HL.out;omega) B3.out.size;rw[←hS] at ho5;have HRUN:=aa hrun;have HO5:=aa ho5;have B5:=aa (B3.out.trans hb5);clear hrun ho5 hb5 hS HO3 B3;go_wp2_with (at_builtin;refine aN rfl (s:=.tmp 45) (x:=.tmp 47) (t:=52) rfl rfl rfl HRUN.out ?_);go_roundw
   case rel=>exact⟨n+1,by omega,by go_num,HO5,B5⟩
   case measure=>simp[intOf];omega
theorem limitsOwned_any (w:World) (x:FV) (F:Fld) (ar:Option Addr) (cr:Nat) (l:List Rcd) (k:Int) (s:Int) (a2:Option Addr) (c2:Nat) (y:List Int) (h:FldAt w x F) (hr:cI w ar l) (hn:l.length≤9223372036854775807) (hd:∀r∈l,r.deed.size≤9223372036854775807) (hk:∀r∈l,0≤r.call.kind∧r.call.kind≤255) (hm_y:y.length≤9223372036854775807) (hi_y:IntsAt w a2 y) :
 Calls prog 21 #[x.val F,.slice ar l.length cr,.int .i64 k,.int .i64 s,.slice a2 y.length c2] w fun e w'=>e=.returned (.bool true)∧Below w.heap.size w w':=by
 obtain⟨w0,hw0⟩:∃W,W=w.alloc (.cells (x.arr F) 27):=⟨_,rfl⟩;have B0:=aa (show Below w.heap.size w w0 by rw[hw0];exact aD)
 have X0:=aa (show Kb [(w.heap.size,.cells (x.arr F) 27)] w0 by
  rw[hw0];have:=Kb.alloc (W:=w) (o:=.cells (x.arr F) 27) (L:=[]) trivial
  simpa using this)
 have HF:=aa (fun W (hb:Below w0.heap.size w0 W)=>(h.below B0.out).below hb);have HRR:=aa (fun W (hb:Below w0.heap.size w0 W)=>(hr.below B0.out (Nat.le_refl _)).below hb (Nat.le_refl _));have HI_y:=aa (fun W (hb:Below w0.heap.size w0 W)=>(hi_y.below B0.out (Nat.le_refl _)).below hb (Nat.le_refl _));have HM_y:=aa hm_y;have HSM:=aa (Bi w0 x F ar cr l (h.below B0.out) (hr.below B0.out (Nat.le_refl _)) hn hd);have HSV:=aa (fun W=>Av W);have HRC:=aa (fun(q:lz F l=true)=>And.intro (tN q) (A9 q hk));obtain⟨sm,hsm⟩:=ag (lz F l);rw[hsm] at HSM HRC;have k0:=ak X0.out.1;unfold FV.arr at k0;unfold FV.val FV.arr at HSM;clear h hr hn hd hk hsm hm_y hi_y;go_enter func21,ntmps21;go_upto_region 1 with fail
 try unfold FV.val FV.arr
 rw[show w.alloc (.cells #[.slice x.aS F.sts.length x.cS,.slice x.aL F.lms.length x.cL,.slice x.aP F.prs.length x.cP,.slice x.aV F.vrs.length x.cV] 27)=w0 from hw0.symm];clear hw0;go_wp2_with fail;refine HSM.out.mono ?_;rintro e w1 ⟨rfl,hb1⟩;have BB1:=aa hb1;have X1:=aa (X0.out.next hb1);clear hb1 k0 HSM X0;cases sm
 ·go_wp2_with fail
  refine(HSV.out _).mono ?_;rintro e wz9Q ⟨rfl,hbz⟩;have BZ9Q:=aa (B0.out.trans ((bB BB1.out hbz).mono B0.out.size));clear hbz;go_wp2_with fail;go_ret;exact⟨rfl,BZ9Q.out⟩
 obtain⟨⟨⟨f1,f2,f3⟩,f4,f5⟩,hn5,hk5⟩:=HRC.out (by trivial)
 by_cases hy2:y.length≤200
 rotate_left
 ·have dy:decide (200<(y.length:Int))=true:=by simp;omega
  go_wp2_with fail;refine(HSV.out _).mono ?_;rintro e wz9Q ⟨rfl,hbz⟩;have BZ9Q:=aa (B0.out.trans ((bB BB1.out hbz).mono B0.out.size));clear hbz;go_wp2_with fail;go_ret;exact⟨rfl,BZ9Q.out⟩
 have dy:decide (200<(y.length:Int))=false:=by simp;omega
 have HWH:=aa (fun W (hb:Below w0.heap.size w0 W)=>whoseL_any W x F ar cr l k s (HF.out W hb) (HRR.out W hb) hn5 hk5);have HMY:=aa (fun W (hb:Below w0.heap.size w0 W)=>mayL_any W x F ar cr l k s (HF.out W hb) (HRR.out W hb) hn5 hk5);have HFI:=aa (fun W (hb:Below w0.heap.size w0 W)=>firstL_any W x F ar cr l (HF.out W hb) (HRR.out W hb) hn5 hk5);have HLA:=aa (fun W (hb:Below w0.heap.size w0 W)=>lastL_any W x F ar cr l (HF.out W hb) (HRR.out W hb) hn5 hk5);have HDR:=aa (fun W (hb:Below w0.heap.size w0 W) a9 c9 (z:List Int) (hz:z.length≤9223372036854775807) (hi:IntsAt W a9 z)=>drawL_any W x F ar cr l (HF.out W hb) (HRR.out W hb) hn5 hk5 a9 c9 z hz hi);have HAT:=aa (fun W (hb:Below w0.heap.size w0 W) a9 c9 (z:List Int) (hz:z.length≤9223372036854775807) (hi:IntsAt W a9 z)=>atD_any W x F k s a9 c9 z (HF.out W hb) hz hi);have HSU:=aa (fun W (hb:Below w0.heap.size w0 W) p=>yC W x F ar cr l p k (HF.out W hb) (HRR.out W hb) hn5 hk5);have HSP:=aa (owned_all (F:=F) (l:=l) (k:=k) (s:=s));obtain⟨⟨PP,SB,E0⟩,hp⟩:=ag (whoseP F l k s);obtain⟨⟨MY,EE⟩,hp1⟩:=ag (mayP F l k s);obtain⟨⟨A,AE9Q⟩,hp2⟩:=ag (firstE F l);obtain⟨⟨Z,ZE⟩,hp3⟩:=ag (lastE F l);rw[hp] at HWH HSP;rw[hp1] at HMY HSP;rw[hp2] at HFI HSP;rw[hp3] at HLA HSP;dsimp only at HSP;obtain⟨n1,hn1⟩:=ag MY.length;obtain⟨n2,hn2⟩:=ag A.length;obtain⟨n3,hn3⟩:=ag Z.length;have HN1:=aa hn1;have HN2:=aa hn2;have HN3:=aa hn3;have HY2:=aa hy2;obtain rfl:E0=EE:=HSP.out.1;have HERR:=aa HSP.out.2.1;have HGOOD:=aa HSP.out.2.2;clear hp hp1 hp2 hp3 hn1 hn2 hn3 f1 f2 f3 f4 f5 hn5 hk5 HRC HF HRR hy2 HSP;have k0:=ak X1.out.1;unfold FV.arr at k0;have HC:=aa (HWH.out w1 BB1.out)
 try unfold FV.val FV.arr at HC
 go_wp2_with fail;refine HC.out.mono ?_;rintro e w2 ⟨rfl,hb⟩;have BB2:=bU BB1 hb;have X2:=aa (X1.out.next hb);clear hb k0 HC BB1 X1 HWH dy;have k0:=ak X2.out.1;unfold FV.arr at k0;have HC:=aa (HMY.out w2 BB2.out)
 try unfold FV.val FV.arr at HC
 go_wp2_with fail;refine HC.out.mono ?_;rintro e w3 ⟨⟨v1,rfl,o1⟩,hb⟩;have BB3:=bU BB2 hb;have X3:=aa (X2.out.next hb);obtain⟨a3,c3,rfl,hi1⟩:=mK o1;have LA3:=aa hi1;simp only[HN1.out];clear hb k0 HC BB2 X2 HMY o1 hi1
 by_cases h0:E0=0
 rotate_left
 ·obtain⟨e1,e2⟩:=HERR.out h0
  have hzb:(E0 != 0)=true:=by simpa using h0
  have hz3:n1=0:=by rw[←HN1.out,e2];rfl
  subst e1 hz3;clear h0 e2 HERR HGOOD HDR HAT HSU HFI HLA;go_wp2_with fail;refine(HSV.out _).mono ?_;rintro e wz9Q ⟨rfl,hbz⟩;have BZ9Q:=aa (B0.out.trans ((bB BB3.out hbz).mono B0.out.size));clear hbz;go_wp2_with fail;go_ret;exact⟨rfl,BZ9Q.out⟩
 subst h0;obtain⟨⟨g1,g2,g3,g4,g5⟩,gD9Q,gS9Q,gA9Q⟩:=HGOOD.out (by trivial);subst g1 g2;have HD0:=aa gD9Q;have HS0:=aa gS9Q;have HA0:=aa gA9Q;have HG3:=aa (show n2≤128 by rw[←HN2.out];exact g3);have HG4:=aa (show n3≤128 by rw[←HN3.out];exact g4);have HG5:=aa (show n1≤40 by rw[←HN1.out];exact g5);clear g3 g4 g5 gD9Q gS9Q gA9Q HGOOD HERR;go_upto_if 73 with fail
 go_cut [] (fun wx=>Hid (Below w3.heap.size w3 wx))
 case first =>
  cases SB
  ·go_wp2_with fail
   go_meet;exact aa (Below.refl _ _)
  obtain⟨r3,r1,r2,re⟩:=HS0.out (by trivial);have HSU3:=aa (HSU.out w3 BB3.out PP);obtain⟨⟨R1,R2,R3⟩,hr⟩:=ag (ma F l PP k);rw[hr] at r3 r1 r2 HSU3;dsimp only at r3 r1 r2 HSU3;subst r3
  have hz3:n1=1:=by rw[←HN1.out,re];rfl
  subst hz3;have LP3:=aa (re▸LA3.out)
  have d1:decide (s<R1)=false:=by simp;omega
  have d2:decide (R2≤s)=false:=by simp;omega
  have k0:=ak X3.out.1;unfold FV.arr at k0;unfold FV.val FV.arr at HSU3;clear re hr r1 r2 HDR HAT HFI HLA HD0 HS0 HA0;go_wp2_with fail;refine HSU3.out.mono ?_;rintro e w4 ⟨rfl,hb4⟩;have HB4:=aa hb4;obtain⟨yb,yo9Q,rfl,ylt,yc9Q⟩:=IntsAt.at (LP3.out.below hb4 (Nat.le_refl _)) (k:=0) (by simp);clear hb4 k0 ylt;simp only[Nat.add_zero,List.getElem_cons_zero] at yc9Q;go_wp2_with fail;go_meet;exact aa HB4.out
 case rest =>
 have hb4:=(show Below w3.heap.size w3 wc from hcut.out);obtain⟨w4,rfl⟩:∃z:World,z=wc:=⟨wc,rfl⟩;have BB4:=bU BB3 hb4;have X4:=aa (X3.out.next hb4);have LA4:=aa (LA3.out.below hb4 (Nat.le_refl _));clear hb4 hcut BB3 X3 LA3 HSU HS0;have k0:=ak X4.out.1;unfold FV.arr at k0;have HC:=aa (HFI.out w4 BB4.out)
 try unfold FV.val FV.arr at HC
 go_wp2_with fail;refine HC.out.mono ?_;rintro e w5 ⟨⟨v1,rfl,o1⟩,hb⟩;have BB5:=bU BB4 hb;have X5:=aa (X4.out.next hb);have LA5:=aa (LA4.out.below hb (Nat.le_refl _));obtain⟨a4,c4,rfl,hi1⟩:=mK o1;have LB5:=aa hi1;simp only[HN2.out];clear hb k0 HC BB4 X4 LA4 HFI o1 hi1;have k0:=ak X5.out.1;unfold FV.arr at k0;have HC:=aa (HLA.out w5 BB5.out)
 try unfold FV.val FV.arr at HC
 go_wp2_with fail;refine HC.out.mono ?_;rintro e w6 ⟨⟨v1,rfl,o1⟩,hb⟩;have BB6:=bU BB5 hb;have X6:=aa (X5.out.next hb);have LA6:=aa (LA5.out.below hb (Nat.le_refl _));have LB6:=aa (LB5.out.below hb (Nat.le_refl _));obtain⟨a5,c5,rfl,hi1⟩:=mK o1;have LC6:=aa hi1;simp only[HN3.out];clear hb k0 HC BB5 X5 LA5 LB5 HLA o1 hi1;go_upto_region 18 with fail;refine mj ?_;intro w7 hW7
 have hb7:Below w6.heap.size w6 w7:=by rw[hW7];exact aD
 have XG:=(show w7.heap[w6.heap.size]?=some (.cells #[.slice a4 n2 c4,.slice a5 n3 c5,.slice a2 y.length c2] 52 (0,0)) by rw[hW7];exact heap_alloc_new _ _);have BB7:=bU BB6 hb7;have X7:=aa (X6.out.next hb7);have LA7:=aa (LA6.out.below hb7 (Nat.le_refl _))
 have HDS:=aa (fun(j:Nat) (hj:j<3)=>(by
  have k9:=ak XG;have i1:=LB6.out.below hb7 (Nat.le_refl _);have i2:=LC6.out.below hb7 (Nat.le_refl _);have i3:=HI_y.out w7 BB7.out;have q1:=HN2.out;have q2:=HN3.out;have q3:=HG3.out;have q4:=HG4.out;have hy:=HY2.out
  rcases j with _|_|_|j
  ·exact⟨a4,c4,A,fun V hV=>((hV.cell (lt_of_block XG)).trans (k9 0)).trans (by rw[←q1];rfl),i1,by omega⟩
  ·exact⟨a5,c5,Z,fun V hV=>((hV.cell (lt_of_block XG)).trans (k9 1)).trans (by rw[←q2];rfl),i2,by omega⟩
  ·exact⟨a2,c2,y,fun V hV=>((hV.cell (lt_of_block XG)).trans (k9 2)).trans rfl,i3,by omega⟩
  ·omega:∃a9 c9,∃Y:List Int,(∀V,Below w7.heap.size w7 V→V.cell? ⟨w6.heap.size,j,none⟩=some (.slice a9 Y.length c9))∧IntsAt w7 a9 Y∧Y.length≤9223372036854775807))
 obtain⟨g,hg⟩:=ag w6.heap.size;rw[hg] at HDS ⊢;clear hW7 hb7 XG hg BB6 X6 LA6 LB6 LC6 HI_y HM_y HN2 HN3 HG3 HG4 HY2;go_wp2_with fail
 go_loopw [24] (fun p wr=>∃(j:Nat),j≤3∧p=.int .i64 (j:Int)∧Hid (Below w7.heap.size w7 wr)) (fun p _=>3-(intOf p).toNat)
 case atStart=>exact⟨0,Nat.zero_le _,rfl,aa (Below.refl _ _)⟩
 case round =>
  obtain⟨j,hj,rfl,HB⟩:=hrel;obtain⟨w8,rfl⟩:∃z:World,z=wr:=⟨wr,rfl⟩;have BB8:=bU BB7 HB.out;have X8:=aa (X7.out.next HB.out)
  by_cases hlt:j<3
  rotate_left
  ·go_wp2_with fail
   refine(HSV.out _).mono ?_;rintro e wz9Q ⟨rfl,hbz⟩;have BZ9Q:=aa (B0.out.trans ((bB BB8.out hbz).mono B0.out.size));clear hbz;go_wp2_with fail;go_ret;exact⟨rfl,BZ9Q.out⟩
  obtain⟨a9,c9,Y,HCV,hiY,hY⟩:=HDS.out j hlt;have HCVh:=aa HCV
  have HDY:=aa (fun V (hV:Below w7.heap.size w7 V)=>(by
   have:=HDR.out V (bB BB7.out hV) a9 c9 Y hY (hiY.below hV (Nat.le_refl _));rw[HD0.out Y] at this
   exact this))
  have HAY:=aa (fun V (hV:Below w7.heap.size w7 V)=>HAT.out V (bB BB7.out hV) a9 c9 Y hY (hiY.below hV (Nat.le_refl _)));have HFA:=aa (HA0.out Y);obtain⟨d,hd⟩:=ag ((drawE F l Y).1);rw[hd] at HDY HFA;obtain⟨⟨q,m⟩,hqm⟩:=ag (atP F k s Y);rw[hqm] at HAY HFA;dsimp only at HAY HFA;obtain⟨LY,hLY⟩:=ag Y.length;rw[hLY] at HDY HAY HCVh
  have hk1:(j:Int)<3:=by omega
  have hk0:(0:Int)≤(j:Int):=by omega
  unfold FV.val FV.arr at HDY HAY;have LA8:=aa (LA7.out.below HB.out (Nat.le_refl _));clear hd hqm hLY HCV hiY hY;go_upto_region 21 with fail
  go_cut [25,26] (fun a b wx=>a=.bool d∧b=.int .i64 0∧Hid (Below w8.heap.size w8 wx))
  case first =>
   refine aJ (S:=Below w8.heap.size w8) (last:=100) (by kernel_rfl) ?_;obtain⟨W0,hW0⟩:∃W,W=w8.drew:=⟨_,rfl⟩
   have hS0:Below w8.heap.size w8 W0:=by rw[hW0];exact(Below.refl _ _).drew
   rw[←hW0];clear hW0;refine tf 0 136 (.agg #[.slice x.aS F.sts.length x.cS,.slice x.aL F.lms.length x.cL,.slice x.aP F.prs.length x.cP,.slice x.aV F.vrs.length x.cV]) hS0 (fun V hV=>?_) ?_
   ·exact gp rfl rfl (ac hV (lt_of_block X8.out.1) X8.out.1) underlying27 rfl (by kernel_rfl)
   (try simp only[s3]);refine aR 1 137 (.slice ar l.length cr) hS0 ?_;(try simp only[s3]);refine aR 2 138 (.slice (some ⟨g,0,none⟩) 3 3) hS0 ?_;(try simp only[s3]);refine aR 3 139 (.int .i64 ((j:Int))) hS0 ?_;(try simp only[s3]);refine tf 4 140 (.pointer (some ⟨g,j,none⟩)) hS0 (fun V hV=>?_) ?_
   ·simp[go_sem,execOp,hk1,hk0]
   (try simp only[s3]);refine tf 5 141 (.slice a9 LY c9) hS0 (fun V hV=>?_) ?_
   ·(have z:=HCVh.out V (bB HB.out hV);simp[go_sem,execOp,z])
   (try simp only[s3]);refine ae 6 rfl (by kernel_rfl) (fun K hK=>?_);go_simp;go_at_call 59;refine(HDY.out _ (bB HB.out hS0)).mono ?_;rintro e wq1 ⟨rfl,hb1⟩;have hS1:Below w8.heap.size w8 wq1:=bB hS0 hb1;clear hb1;go_wp2_with fail;refine hK.out _ _ (.inr hS1) ?_;clear hK K;(try simp only[Act.put,s3]);refine aR 7 135 (.tuple #[.bool d,.int .i64 0]) hS1 ?_;(try simp only[s3]);refine aR 8 143 (.bool d) hS1 ?_;(try simp only[s3]);refine aR 9 144 (.int .i64 0) hS1 ?_;(try simp only[s3]);refine aR 10 25 (.bool d) hS1 ?_;(try simp only[s3]);refine aR 11 26 (.int .i64 0) hS1 ?_;(try simp only[s3]);refine aw (by kernel_rfl) ?_ _;go_wp2_with fail;go_meet;exact⟨rfl,rfl,aa hS1⟩
  case rest =>
  obtain⟨rfl,rfl,HB9⟩:=hcut;obtain⟨w99Q,rfl⟩:∃z:World,z=wc:=⟨wc,rfl⟩;have BW9:=bU HB HB9.out;have X9:=aa (X8.out.next HB9.out);have LA9:=aa (LA8.out.below HB9.out (Nat.le_refl _));clear HB9 X8 LA8 HB BB8 HDY;go_upto_region 24 with fail
  go_cut [27,28] (fun a b wx=>a=.int .i64 q∧b=.int .i64 m∧Hid (Below w99Q.heap.size w99Q wx))
  case first =>
   refine aJ (S:=Below w99Q.heap.size w99Q) (last:=100) (by kernel_rfl) ?_;obtain⟨W0,hW0⟩:∃W,W=w99Q.drew:=⟨_,rfl⟩
   have hS0:Below w99Q.heap.size w99Q W0:=by rw[hW0];exact(Below.refl _ _).drew
   rw[←hW0];clear hW0;refine tf 0 148 (.agg #[.slice x.aS F.sts.length x.cS,.slice x.aL F.lms.length x.cL,.slice x.aP F.prs.length x.cP,.slice x.aV F.vrs.length x.cV]) hS0 (fun V hV=>?_) ?_
   ·exact gp rfl rfl (ac hV (lt_of_block X9.out.1) X9.out.1) underlying27 rfl (by kernel_rfl)
   (try simp only[s3]);refine aR 1 149 (.int .i64 k) hS0 ?_;(try simp only[s3]);refine aR 2 150 (.int .i64 s) hS0 ?_;(try simp only[s3]);refine aR 3 151 (.slice (some ⟨g,0,none⟩) 3 3) hS0 ?_;(try simp only[s3]);refine aR 4 152 (.int .i64 ((j:Int))) hS0 ?_;(try simp only[s3]);refine tf 5 153 (.pointer (some ⟨g,j,none⟩)) hS0 (fun V hV=>?_) ?_
   ·simp[go_sem,execOp,hk1,hk0]
   (try simp only[s3]);refine tf 6 154 (.slice a9 LY c9) hS0 (fun V hV=>?_) ?_
   ·(have z:=HCVh.out V (bB BW9.out hV);simp[go_sem,execOp,z])
   (try simp only[s3]);refine ae 7 rfl (by kernel_rfl) (fun K hK=>?_);go_simp;go_at_call 70;refine(HAY.out _ (bB BW9.out hS0)).mono ?_;rintro e wq1 ⟨rfl,hb1⟩;have hS1:Below w99Q.heap.size w99Q wq1:=bB hS0 hb1;clear hb1;go_wp2_with fail;refine hK.out _ _ (.inr hS1) ?_;clear hK K;(try simp only[Act.put,s3]);refine aR 8 147 (.tuple #[.int .i64 q,.int .i64 m]) hS1 ?_;(try simp only[s3]);refine aR 9 156 (.int .i64 q) hS1 ?_;(try simp only[s3]);refine aR 10 157 (.int .i64 m) hS1 ?_;(try simp only[s3]);refine aR 11 27 (.int .i64 q) hS1 ?_;(try simp only[s3]);refine aR 12 28 (.int .i64 m) hS1 ?_;(try simp only[s3]);refine aw (by kernel_rfl) ?_ _;go_wp2_with fail;go_meet;exact⟨rfl,rfl,aa hS1⟩
  case rest =>
  obtain⟨rfl,rfl,HB10⟩:=hcut;obtain⟨w10,rfl⟩:∃z:World,z=wc:=⟨wc,rfl⟩;have BW10:=bU BW9 HB10.out;have LA10:=aa (LA9.out.below HB10.out (Nat.le_refl _));clear HB10 X9 LA9 BW9 HAY HCVh;cases d
  ·go_wp2_with fail
   go_roundw
   case rel=>exact⟨j+1,by omega,by go_num,BW10⟩
   case measure=>simp[intOf];omega
  obtain⟨z1,z2⟩:=HFA.out (by trivial);have HZ2:=aa z2;clear HFA z2;go_upto_region 26 with fail
  go_cut [177] (fun t wx=>t=.bool false∧Hid (Below w10.heap.size w10 wx))
  case first =>
   cases SB
   ·clear z1
    rcases HZ2.out with z|⟨z,-⟩
    ·subst z
     go_wp2_with fail;go_meet;exact⟨rfl,aa (Below.refl _ _)⟩
    ·subst z
     go_wp2_with fail;go_meet;exact⟨rfl,aa (Below.refl _ _)⟩
   ·obtain⟨rfl,rfl⟩:=Prod.mk.inj (z1 (by trivial))
    go_wp2_with fail;go_meet;exact⟨rfl,aa (Below.refl _ _)⟩
  case rest =>
  obtain⟨rfl,HB11⟩:=hcut;obtain⟨w11,rfl⟩:∃z:World,z=wc:=⟨wc,rfl⟩;have BW11:=bU BW10 HB11.out;have LA11:=aa (LA10.out.below HB11.out (Nat.le_refl _));clear HB11 BW10 LA10 z1;go_wp2_with fail
  go_loopw [29,30] (fun f p wr=>∃(i:Nat),i≤n1∧p=.int .i64 (i:Int)∧f=.bool ((MY.take i).any fun z=>z==q)∧Hid (Below w11.heap.size w11 wr)) (fun _ p _=>n1-(intOf p).toNat)
  case atStart=>exact⟨0,Nat.zero_le _,rfl,by simp,aa (Below.refl _ _)⟩
  case round =>
   obtain⟨i,hi,rfl,rfl,HBI⟩:=hrel;have hg5:=HG5.out;have BW12:=bU BW11 HBI.out;have LA12:=LA11.out.below HBI.out (Nat.le_refl _);obtain⟨fi,hfi⟩:=ag ((MY.take i).any fun z=>z==q);rw[hfi]
   by_cases hil:i<n1
   rotate_left
   ·obtain rfl:i=n1:=by omega
    have HFI:=aa hfi;clear hfi LA12
    rcases HZ2.out with z|⟨z,zm9Q⟩
    ·subst z
     go_wp2_with fail;go_roundw
     case rel=>exact⟨j+1,by omega,by go_num,BW12⟩
     case measure=>simp[intOf];omega
    ·subst z
     obtain rfl:fi=true:=by
      rw[←HFI.out,←HN1.out,List.take_length,List.any_eq_true];exact⟨q,zm9Q,by simp⟩
     clear zm9Q;go_wp2_with fail;go_roundw
     case rel=>exact⟨j+1,by omega,by go_num,BW12⟩
     case measure=>simp[intOf];omega
   have hil2:i<MY.length:=by rw[HN1.out];exact hil
   have HSC:=aa (show((MY.take (i+1)).any fun z=>z==q)=(fi||(MY[i]==q)) by rw[List.take_succ_eq_append_getElem hil2,List.any_append,hfi];simp);obtain⟨yb,yo9Q,rfl,ylt,yc9Q⟩:=LA12.at hil2;obtain⟨v,hv⟩:=ag (MY[i]);rw[hv] at yc9Q HSC
   have hx1:(i:Int)<(n1:Int):=by omega
   have hx0:(0:Int)≤(i:Int):=by omega
   clear hfi hv ylt;cases fi
   ·obtain⟨ve9Q,hve⟩:=ag (v==q)
    have hsc:=HSC.out;rw[hve,Bool.false_or] at hsc;have HSC2:=aa hsc;clear hsc HSC;go_wp2_with fail;go_roundw
    case rel=>exact⟨i+1,by omega,by go_num,by rw[HSC2.out],HBI⟩
    case measure=>simp[intOf];omega
   ·have hsc:=HSC.out
    rw[Bool.true_or] at hsc;have HSC2:=aa hsc;clear hsc HSC;go_wp2_with fail;go_roundw
    case rel=>exact⟨i+1,by omega,by go_num,by rw[HSC2.out],HBI⟩
    case measure=>simp[intOf];omega
end Go.Proofs.YtkhemfnlflbniaaGreatDoor
namespace Go.Proofs.YtkhemfnlflbniaaGreatDoor
open Go Go.ChangeShapes Go.WideShapes Go.ChangeAt Go.RowKit Go.Joins Go.Deep Go.Proofs.Tryz
theorem and2 {a b:Bool} (ha:a=true) (hb:b=true):(a&&b)=true:=by rw[ha,hb];rfl
theorem argOk27:tY 52:=⟨by kernel_rfl,of_decide_eq_true (by kernel_rfl)⟩
theorem argOk3:tY 3:=⟨by kernel_rfl,of_decide_eq_true (by kernel_rfl)⟩
section
variable {H:Type} {enc:TypeId×Value→H}
theorem trodAll_below {W W':World} (hb:Below W.heap.size W W'):∀(ts:List TypeId) (vs:List Value) (ds:List (DataW H)) (ps:List MemPlace),(∀t∈ts,tY t)→DataW.TrodAll enc prog W 0 (fun _=>true) true ts vs ds ps →
 (∀x∈ps,x.block<W.heap.size)→DataW.TrodAll enc prog W' 0 (fun b=>decide (b<W.heap.size)) true ts vs ds ps
 | [],vs,ds,ps,_,h,_=>by
   obtain⟨rfl,rfl,rfl⟩:=trodAll_nil h;exact trodAll_mk0
 | t::ts,vs,ds,ps,hT,h,hs=>by
   obtain⟨v,vs',d,ds',p,q,rfl,rfl,rfl,h1,h2⟩:=trodAll_cons h;have ht:=hT t (List.mem_cons_self ..);exact trodAll_cons_mk (Below.trod Tryz.laidOut ht.1 ht.2 h1 hb (fun x hx=>hs x (List.mem_append_left _ hx))) (trodAll_below hb ts vs' ds' q (fun x hx=>hT x (List.mem_cons_of_mem _ hx)) h2 (fun x hx=>hs x (List.mem_append_right _ hx)))
theorem law_post {f:Func} {s:ChangeSpec} {W W':World} {args:Array Value} {ds gs:List (DataW H)} {before:List MemPlace}
 (hW:DataW.Whole enc prog f.params.toList s.vars false W args.toList ds gs before) (hb:Below W.heap.size W W') (hrt:f.resultTypes=#[4])
 (hts:∀t∈f.params.toList,tY t) (hsv:s.vars=[]) (hfn:s.fn H (ds++[])={ results:=[.lit (.bool true)],args:=ds }) :
 s.post enc prog f false true false false W args (.bool true) W':=by
 have hW':=hW;obtain⟨p,q,hA,hV,rfl,hfz,hnd⟩:=hW;have hV':=hV;rw[hsv] at hV';obtain⟨rfl,rfl⟩:=trodVars_none hV'
 have hlt:∀x∈p,x.block<W.heap.size:=fun x hx=>by
  have:=hW'.lt x;exact this (List.mem_append_left _ hx)
 refine⟨ds,[],p++[],[],p,[],hW',?_,?_,?_,hb.frame _,fun h=>by cases h⟩
 ·rw[hfn,hrt]
  exact trodAll_cons_mk (shut_bool underlying4 _) trodAll_mk0
 ·rw[hfn]
  exact trodAll_below hb _ _ _ _ hts hA hlt
 ·rw[hfn,hsv]
  rfl
theorem ints_trod {W:World} {n:Nat} {cs:List Value} {x:DataW H×List MemPlace} (h:DataW.trod enc prog W 0 (fun _=>true) true n 52 cs=some x) :
 ∃(a:Option Addr) (cap:Nat) (l:List Int),cs=[.slice a l.length cap]∧IntsAt W a l∧jq a l.length cap∧l.length≤9223372036854775807∧∀x∈l,bK x:=by
 have c3:Tryz.prog.cellsOf 3=1:=by kernel_rfl
 rcases open_slice1 underlying52 c3 h with ⟨h1,_⟩|⟨a,len,cap,m,n',V,D,Pl,hcs,_,hl,hm,hmm,_,hx⟩
 ·exact⟨none,0,[],h1,.inl rfl,fun _=>⟨rfl,rfl⟩,by simp,by simp⟩
 ·have hmm':m=cap:=hmm
  obtain⟨l,hll,hlp⟩:=wI (p:=fun i (k:Int)=>W.cell? (a.add i)=some (.int .i64 k)∧bK k) len (fun i hi=>by
   obtain⟨h1,h2⟩:=hx i (by omega);obtain⟨k,hk,hok⟩:=bA h2
   exact⟨k,by rw[h1,hk],hok⟩)
  have hm2:cap≤9223372036854775807:=hm;refine⟨some a,cap,l,by rw[hcs,hll],?_,(fun e=>by cases e),by omega,fun x hx=>?_⟩
  ·by_cases h0:len=0
   ·exact .inl (List.length_eq_zero_iff.1 (by omega))
   ·have z:=(hlp 0 (by omega)).1
    have ha:a.spot=none:=by
     have:=(oI z).1;unfold Addr.add at this;simpa using this
    obtain⟨b,off,sp⟩:=a;simp only at ha;subst ha;refine .inr ⟨b,off,rfl,?_,fun i hi=>?_⟩
    ·have:=(oI z).2
     rw[wZ] at this;exact this
    ·have:=(hlp i hi).1
     rw[wZ] at this;exact this
  ·obtain⟨i,hi,rfl⟩:=List.getElem_of_mem hx
   exact(hlp i hi).2
theorem open_list {b0:Nat} {W:World} {v:Value} {d:DataW H} {p:List MemPlace} (hv:Value.okWide prog W .any b0 52 v) (h:DataW.Trod enc prog W 0 (fun _=>true) true 52 v d p) :
 ∃(a:Option Addr) (cap:Nat) (l:List Int),v=.slice a l.length cap∧IntsAt W a l∧jq a l.length cap∧l.length≤9223372036854775807∧∀x∈l,bK x:=by
 obtain⟨n,hn⟩:=h;obtain⟨a,cap,l,h1,h2⟩:=ints_trod hn
 have hc:v=.slice a l.length cap:=by
  have hs:=okWide_slice underlying52 hv;obtain⟨a',n',c',rfl⟩:=hs;simpa [Value.cells] using h1
 exact⟨a,cap,l,hc,h2⟩
theorem open_num {b0:Nat} {W:World} {v:Value} {d:DataW H} {p:List MemPlace} (hv:Value.okWide prog W .any b0 3 v) (h:DataW.Trod enc prog W 0 (fun _=>true) true 3 v d p):∃n:Int,v=.int .i64 n∧bK n:=by
 obtain⟨n,rfl,_,_,hw⟩:=open_int underlying3 hv h;refine⟨n,rfl,?_⟩
 have:IntKind.min .i64≤n∧n≤IntKind.max .i64:=by simpa [Lit.wf] using hw
 simpa [bK,IntKind.min,IntKind.max,IntKind.signed,IntKind.bits] using this
end
theorem argOk46:tY 27:=⟨by kernel_rfl,of_decide_eq_true (by kernel_rfl)⟩
section
variable {H:Type} {enc:TypeId×Value→H}
theorem sta_trod {W:World} {n:Nat} {cs:List Value} {y:DataW H×List MemPlace} (hl:cs.length=2) (h:DataW.trod enc prog W 0 (fun _=>true) true n 131 cs=some y):∃s:Sta,cs=s.cells∧s.name.size≤9223372036854775807∧bK s.x:=by
 have c9:Tryz.prog.cellsOf 9=1:=by kernel_rfl
 have c3:Tryz.prog.cellsOf 3=1:=by kernel_rfl
 match cs,hl with
 | [u0,u1],_ =>
   obtain⟨ys,n2,_,_,_,hyl,hf⟩:=DataW.trod_struct underlying131 h
   match ys,hyl with
   | [y0,y1],_ =>
     have f0:DataW.trod enc prog W 0 (fun _=>true) true n2 9 (([u0,u1].drop 0).take (Tryz.prog.cellsOf 9))=some y0:=hf 0 _ rfl;have f1:DataW.trod enc prog W 0 (fun _=>true) true n2 3 (([u0,u1].drop 1).take (Tryz.prog.cellsOf 3))=some y1:=hf 1 _ rfl;rw[c9] at f0;rw[c3] at f1;obtain⟨k0,rfl,o0⟩:=zu (v:=u0) (y:=y0) f0;obtain⟨k1,rfl,o1⟩:=bA (v:=u1) (y:=y1) f1;exact⟨⟨k0,k1⟩,rfl,o0,o1⟩
theorem par_trod {W:World} {n:Nat} {cs:List Value} {y:DataW H×List MemPlace} (hl:cs.length=4) (h:DataW.trod enc prog W 0 (fun _=>true) true n 133 cs=some y):∃s:Par,cs=s.cells∧s.name.size≤9223372036854775807∧bK s.south∧bK s.wst∧bK s.est:=by
 have c9:Tryz.prog.cellsOf 9=1:=by kernel_rfl
 have c3:Tryz.prog.cellsOf 3=1:=by kernel_rfl
 match cs,hl with
 | [u0,u1,u2,u3],_ =>
   obtain⟨ys,n2,_,_,_,hyl,hf⟩:=DataW.trod_struct underlying133 h
   match ys,hyl with
   | [y0,y1,y2,y3],_ =>
     have f0:DataW.trod enc prog W 0 (fun _=>true) true n2 9 (([u0,u1,u2,u3].drop 0).take (Tryz.prog.cellsOf 9))=some y0:=hf 0 _ rfl;have f1:DataW.trod enc prog W 0 (fun _=>true) true n2 3 (([u0,u1,u2,u3].drop 1).take (Tryz.prog.cellsOf 3))=some y1:=hf 1 _ rfl;have f2:DataW.trod enc prog W 0 (fun _=>true) true n2 3 (([u0,u1,u2,u3].drop 2).take (Tryz.prog.cellsOf 3))=some y2:=hf 2 _ rfl;have f3:DataW.trod enc prog W 0 (fun _=>true) true n2 3 (([u0,u1,u2,u3].drop 3).take (Tryz.prog.cellsOf 3))=some y3:=hf 3 _ rfl;rw[c9] at f0;rw[c3] at f1 f2 f3;obtain⟨k0,rfl,o0⟩:=zu (v:=u0) (y:=y0) f0;obtain⟨k1,rfl,o1⟩:=bA (v:=u1) (y:=y1) f1;obtain⟨k2,rfl,o2⟩:=bA (v:=u2) (y:=y2) f2;obtain⟨k3,rfl,o3⟩:=bA (v:=u3) (y:=y3) f3;exact⟨⟨k0,k1,k2,k3⟩,rfl,o0,o1,o2,o3⟩
theorem vrn_trod {W:World} {n:Nat} {cs:List Value} {y:DataW H×List MemPlace} (hl:cs.length=2) (h:DataW.trod enc prog W 0 (fun _=>true) true n 253 cs=some y):∃s:Vrn,cs=s.cells∧bK s.year∧bK s.east:=by
 have c3:Tryz.prog.cellsOf 3=1:=by kernel_rfl
 match cs,hl with
 | [u0,u1],_ =>
   obtain⟨ys,n2,_,_,_,hyl,hf⟩:=DataW.trod_struct underlying253 h
   match ys,hyl with
   | [y0,y1],_ =>
     have f0:DataW.trod enc prog W 0 (fun _=>true) true n2 3 (([u0,u1].drop 0).take (Tryz.prog.cellsOf 3))=some y0:=hf 0 _ rfl;have f1:DataW.trod enc prog W 0 (fun _=>true) true n2 3 (([u0,u1].drop 1).take (Tryz.prog.cellsOf 3))=some y1:=hf 1 _ rfl;rw[c3] at f0 f1;obtain⟨k0,rfl,o0⟩:=bA (v:=u0) (y:=y0) f0;obtain⟨k1,rfl,o1⟩:=bA (v:=u1) (y:=y1) f1;exact⟨⟨k0,k1⟩,rfl,o0,o1⟩
theorem open_fld {b0:Nat} {W:World} {v:Value} {d:DataW H} {p:List MemPlace} (hv:Value.okWide prog W .any b0 27 v) (h:DataW.Trod enc prog W 0 (fun _=>true) true 27 v d p) :
 ∃(x:FV) (F:Fld),v=x.val F∧FldAt W x F:=by
 obtain⟨v0,v1,v2,v3,y0,y1,y2,y3,n,rfl,_,_,h0,h1,h2,h3⟩:=open_agg4 underlying27 (by kernel_rfl) (by kernel_rfl) hv h;obtain⟨aS,cS,sts,e0,r0,l0,k0⟩:=xP (k:=2) (f:=Sta.cells) (by omega) underlying22 (by kernel_rfl) (fun n cs y hl hh=>sta_trod hl hh) h0
 obtain⟨aL,cL,lms,e1,r1,l1,k1⟩:=xP (k:=1) (f:=cO) (by omega) underlying23 (by kernel_rfl) (fun n cs y hl hh=>by
  match cs,hl with
  | [u],_ =>
    obtain⟨s,rfl,hs⟩:=zu hh
    exact⟨s,rfl,hs⟩) h1
 obtain⟨aP,cP,prs,e2,r2,l2,k2⟩:=xP (k:=4) (f:=Par.cells) (by omega) underlying24 (by kernel_rfl) (fun n cs y hl hh=>par_trod hl hh) h2;obtain⟨aV,cV,vrs,e3,r3,l3,k3⟩:=xP (k:=2) (f:=Vrn.cells) (by omega) underlying25 (by kernel_rfl) (fun n cs y hl hh=>vrn_trod hl hh) h3;simp only[List.cons.injEq,and_true] at e0 e1 e2 e3;subst e0 e1 e2 e3;refine⟨⟨aS,cS,aL,cL,aP,cP,aV,cV⟩,⟨sts,lms,prs,vrs⟩,rfl,r0,r1,r2,r3,l0,l1,l2,l3,?_,fun s hs=>(k0 s hs).2,fun s hs=>(k2 s hs).2,k3⟩;intro l hl s hs;simp only[Fld.names,List.mem_cons,List.not_mem_nil,or_false] at hl
 rcases hl with rfl|rfl|rfl
 ·obtain⟨t,ht,rfl⟩:=List.mem_map.1 hs
  exact(k0 t ht).1
 ·exact k1 s hs
 ·obtain⟨t,ht,rfl⟩:=List.mem_map.1 hs
  exact(k2 t ht).1
end
end Go.Proofs.YtkhemfnlflbniaaGreatDoor
