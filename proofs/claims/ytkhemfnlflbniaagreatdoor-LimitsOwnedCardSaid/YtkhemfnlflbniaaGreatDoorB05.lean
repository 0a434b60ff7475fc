/- Merged text 5 of the base: Wu, Wn, Wv, Wx, X1, Yc, Fp, X2, PureI, X3, X4, Wy, Wz, PlF, PlJ. No conditions beyond those stated. -/
import Derived.Test.YtkhemfnlflbniaaGreatDoorB04
import Derived.Test.YtkhemfnlflbniaaGreatDoorB03
import Derived.Deep.RegionWith
import Derived.Deep.DeepCutAuto
import Derived.Test.YtkhemfnlflbniaaGreatDoorB01
import Derived.Deep.RegionHeld3
import Derived.Lib.AppendZerosOnto
import Derived.Deep.CutBlock
set_option maxRecDepth 100000
set_option maxHeartbeats 4000000
namespace Go.Proofs.YtkhemfnlflbniaaGreatDoor
open Go Go.RowKit Go.Shelf Tryz
def kA (P:Program) (f:FuncId) (caps:Array Value) (Fix:Nat→Prop) (w:World) (bs:List Bd) (p:Bd→Bool):Prop :=
 ∀k (_:k<bs.length) (W:World),KeepsB Fix w W→Calls P f (#[bs[k].val]++caps) W fun e W'=>e=.returned (.bool (p bs[k]))∧Below W.heap.size W W'
theorem fD (w:World) (a:Option Addr) (cap:Nat) (bs:List Bd) (f:FuncId) (caps:Array Value) (Fix:Nat→Prop) (p:Bd→Bool) (hl:bs.length≤9223372036854775807) (h:BoundsAt w a bs)
 (hF:∀b,Fix b→b<w.heap.size) (hf:kA prog f caps Fix w bs p) (eg:Enters prog f) :
 Calls prog 248 #[.slice a bs.length cap,.func (.func f) #[] caps] w fun e w'=>e=.returned (.int .i64 (bk p bs))∧Below w.heap.size w w':=by
 have H:=aa h;have HF:=aa hf;have HFx:=aa hF;unfold Enters at eg;clear h hf hF;go_enter func248,ntmps248;go_wp2
 go_loopw [8] (fun i wr=>∃k:Nat,k≤bs.length∧i=.int .i64 k∧Hid ((bs.take k).any p=false)∧Below w.heap.size w wr)
  (fun i _=>bs.length-(intOf i).toNat)
 case atStart=>exact⟨0,by omega,rfl,aa rfl,by go_grown⟩
 case round =>
  obtain⟨k,hk,rfl,HA,hb⟩:=hrel
  by_cases hlt:k<bs.length
  ·obtain⟨b,off,rfl,hbl,hcs⟩:=H.out.at hlt
   obtain⟨c0,c1,c2,c3⟩:=hcs.below hb hbl;have hcall:=HF.out k hlt wr (KeepsB.below hb HFx.out);unfold Bd.val at hcall;obtain⟨x,hx⟩:=ag (bs[k]);rw[hx] at c0 c1 c2 c3 hcall;have HX:=aa hx;clear hx hcs;obtain⟨q,hq⟩:=ag (p x);rw[hq] at hcall;have HC:=aa hcall;have HQ:=aa hq;clear hcall hq
   cases q with
   | true =>
     go_wp2_with (go_at_fn f;refine HC.out.mono ?_;rintro e w' ⟨rfl,hb'⟩);go_ret;exact⟨by rw[dC hlt HA.out (by rw[HX.out];exact HQ.out)];rfl,bB hb hb'⟩
   | false =>
     go_wp2_with (go_at_fn f;refine HC.out.mono ?_;rintro e w' ⟨rfl,hb'⟩);go_roundw
     case rel=>exact⟨k+1,by omega,by go_num,aa (bR hlt HA.out (by rw[HX.out];exact HQ.out)),bB hb hb'⟩
     case measure=>simp[intOf];omega
  ·go_wp2_with fail
   go_ret;exact⟨by rw[dc (cD (by omega) HA.out)];rfl,hb⟩
def qO (C:Array Value) (i:Nat) (b:Bd):Array Value:=(((C.setIfInBounds (i*4) (.int .i64 b.src)).setIfInBounds (i*4+1) (.int .i64 b.dst)).setIfInBounds (i*4+2) (.int .i64 b.most)).setIfInBounds (i*4+3) (.int .i64 b.rcd)
theorem p7 (C:Array Value) (i:Nat) (b:Bd):(qO C i b).size=C.size:=by simp[qO]
theorem tQ (C:Array Value) (i:Nat) (b:Bd) (k:Nat) (h:k<i*4∨i*4+4≤k):(qO C i b)[k]?=C[k]?:=by
 unfold qO;rw[Array.getElem?_setIfInBounds_ne (by omega),Array.getElem?_setIfInBounds_ne (by omega),Array.getElem?_setIfInBounds_ne (by omega),Array.getElem?_setIfInBounds_ne (by omega)]
theorem Ae (C:Array Value) (i:Nat) (b:Bd) (h:i*4+4≤C.size) (j:Nat) (hj:j<4):(qO C i b)[i*4+j]?=b.cells[j]?:=by
 unfold qO Bd.cells
 have h4:j=0∨j=1∨j=2∨j=3:=by omega
 rcases h4 with rfl|rfl|rfl|rfl
 ·rw[Array.getElem?_setIfInBounds_ne (by omega),Array.getElem?_setIfInBounds_ne (by omega),Array.getElem?_setIfInBounds_ne (by omega),Nat.add_zero,Array.getElem?_setIfInBounds_self_of_lt (by omega)];rfl
 ·rw[Array.getElem?_setIfInBounds_ne (by omega),Array.getElem?_setIfInBounds_ne (by omega),Array.getElem?_setIfInBounds_self_of_lt (by simp;omega)];rfl
 ·rw[Array.getElem?_setIfInBounds_ne (by omega),Array.getElem?_setIfInBounds_self_of_lt (by simp;omega)];rfl
 ·rw[Array.getElem?_setIfInBounds_self_of_lt (by simp;omega)];rfl
theorem ck {p:Bd→Bool} {xs:List Bd} {j:Nat} (hj:j<xs.length):(xs.take (j+1)).filter (fun x=>!p x)=(xs.take j).filter (fun x=>!p x)++(if p xs[j] then[] else[xs[j]]):=by
 rw[List.take_succ_eq_append_getElem hj,List.filter_append]
 cases h:p xs[j]<;>simp[h]
theorem km {p:Bd→Bool} {l:List Bd} (h:l.any p=false):l.filter (fun x=>!p x)=l:=by
 apply List.filter_eq_self.2
 intro x hx;have:=List.any_eq_false.1 h x hx;simpa using this
structure DelBSt (W:World) (g cap:Nat) (xs:List Bd) (p:Bd→Bool) (i j:Nat) (C:Array Value):Prop where
 blk:W.heap[g]?=some (.cells C 65 (0,0))
 size:C.size=cap*4
 head:C.toList.take (i*4)=bh ((xs.take j).filter fun x=>!p x)
 tail:∀k (h:k<xs.length),j≤k→∀q,q<4→C[k*4+q]?=xs[k].cells[q]?
 len:((xs.take j).filter fun x=>!p x).length=i
 fit:xs.length≤cap
theorem DelBSt.skip {W W':World} {g cap:Nat} {xs:List Bd} {p:Bd→Bool} {i j:Nat} {C:Array Value} (h:DelBSt W g cap xs p i j C) (hj:j<xs.length) (hp:p xs[j]=true) (hW:W'.heap[g]?=W.heap[g]?):DelBSt W' g cap xs p i (j+1) C :=
 ⟨hW.trans h.blk,h.size,by rw[ck hj,hp,if_pos rfl,List.append_nil];exact h.head,fun k hk hjk=>h.tail k hk (by omega),by rw[ck hj,hp,if_pos rfl,List.append_nil];exact h.len,h.fit⟩
theorem DelBSt.take {W W':World} {g cap:Nat} {xs:List Bd} {p:Bd→Bool} {i j:Nat} {C:Array Value} (h:DelBSt W g cap xs p i j C) (hj:j<xs.length) (hij:i≤j) (hp:p xs[j]=false) (hW:W'.heap[g]?=some (.cells (qO C i xs[j]) 65 (0,0))):DelBSt W' g cap xs p (i+1) (j+1) (qO C i xs[j]):=by
 have hfit:=h.fit
 have hi:i*4+4≤C.size:=by rw[h.size];omega
 refine⟨hW,by rw[p7];exact h.size,?_,fun k hk hjk q hq=>?_,?_,h.fit⟩
 ·rw[ck hj,hp]
  simp only[Bool.false_eq_true,if_false];rw[dI,←h.head]
  apply List.ext_getElem?
  intro k
  have hlh:(C.toList.take (i*4)).length=i*4:=by rw[List.length_take,Array.length_toList];omega
  by_cases hk:k<i*4
  ·rw[List.getElem?_append_left (by omega),List.getElem?_take_of_lt (by omega),List.getElem?_take_of_lt hk,Array.getElem?_toList,Array.getElem?_toList,tQ _ _ _ _ (.inl hk)]
  ·rw[List.getElem?_append_right (by omega),hlh]
   by_cases hk2:k<i*4+4
   ·rw[List.getElem?_take_of_lt (by omega),Array.getElem?_toList]
    have:=Ae C i xs[j] hi (k-i*4) (by omega);rw[show i*4+(k-i*4)=k by omega] at this;rw[this];simp[bh]
   ·rw[List.getElem?_eq_none (by rw[List.length_take,Array.length_toList,p7];omega),List.getElem?_eq_none (by rw[cU];simp;omega)]
 ·rw[tQ _ _ _ _ (.inr (by omega))]
  exact h.tail k hk (by omega) q hq
 ·rw[ck hj,hp]
  simp[h.len]
theorem lx (w:World) (ty:TypeId) (b o n c:Nat) (hn:0<n) (hc:∀j,j<n*4→(w.cell? ⟨b,o+j,none⟩).isSome=true) (hf:∀j,j<n*4→w.frozen? ⟨b,o+j,none⟩=false) :
 ∃zs:List Value,(Builtin.clear_ #[59] ty #[.slice (some ⟨b,o,none⟩) n c]).run prog w=.ok (.tuple #[]) (w.setCells b o zs):=by
 have hz:∀w,(zeroValue 65).run prog w=.ok (.agg #[.int .i64 0,.int .i64 0,.int .i64 0,.int .i64 0]) w:=zeroValue65
 have hsz:(Builtin.zeroCells (Value.agg #[.int .i64 0,.int .i64 0,.int .i64 0,.int .i64 0]).cells n).toList.length=n*4:=by
  rw[Array.length_toList,size_zeroCells];simp[Value.cells]
 have hone:∀v∈(Builtin.zeroCells (Value.agg #[.int .i64 0,.int .i64 0,.int .i64 0,.int .i64 0]).cells n).toList,v.oneCell'=true:=by
  intro v hv;simp only[Builtin.zeroCells,Value.cells] at hv;simp at hv;obtain⟨k,_,rfl⟩:=hv
  have:k%4=0∨k%4=1∨k%4=2∨k%4=3:=by omega
  rcases this with e|e|e|e<;>simp[e,Value.oneCell']
 have hst:=run_storeCells_cells (P:=prog) b o _ 0 w (by intro j hj;rw[hsz] at hj;simpa using hc j hj) (by intro j hj;rw[hsz] at hj;exact hf j hj) hone;simp only[Nat.add_zero] at hst;obtain⟨m,rfl⟩:∃m,n=m+1:=⟨n-1,by omega⟩;refine⟨(Builtin.zeroCells (Value.agg #[.int .i64 0,.int .i64 0,.int .i64 0,.int .i64 0]).cells (m+1)).toList,?_⟩;simp[Builtin.clear_,run_underlying underlying59,hz,hst]
theorem lf (w:World) (base:Nat) (v:Value) (xs:List Bd) (f:FuncId) (caps:Array Value) (Fix:Nat→Prop) (p:Bd→Bool) (hl:xs.length≤100000) (hown:w.ownsRow base 65 4 v xs.length (bh xs)) (hb0:base≤w.heap.size)
 (hF:∀b,Fix b→b<base) (hT:kA prog f caps Fix w xs p) (eg:Enters prog f) :
 Calls prog 240 #[v,.func (.func f) #[] caps] w fun e w'=>∃v',e=.returned v'∧cw (xs.filter fun x=>!p x) base v' w'∧Below base w w':=by
 have HT:=aa hT;have HF:=aa hF;have EG:=aa eg
 have hFw:∀b,Fix b→b<w.heap.size:=fun b hb=>Nat.lt_of_lt_of_le (hF b hb) hb0
 by_cases hv:v=.slice none 0 0
 ·subst hv
  have h0:xs=[]:=by
   rcases hown.2 with ⟨_,e⟩|⟨g,cp,cu,e,_⟩
   ·exact List.length_eq_zero_iff.1 e
   ·cases e
  subst h0;have hidx:=fD w none 0 [] f caps Fix p (by simp) (.inl rfl) hFw hT eg;have HI:=aa hidx;clear hidx hown hFw hl hT hF eg;go_enter func240,ntmps240;go_wp2_with (go_at_call 248;refine HI.out.mono ?_;rintro e w1 ⟨rfl,hb1⟩);go_ret;exact⟨_,rfl,World.ownsRow_nil _ _ _ _,hb1.mono hb0⟩
 ·obtain⟨g,cap,hve,C,hC,hb,hc,hcm,hCs,hCt⟩:∃g cap,v=.slice (some ⟨g,0,none⟩) xs.length cap∧∃C:Array Value,w.heap[g]?=some (.cells C 65 (0,0))∧base≤g∧xs.length≤cap∧cap≤maxLen∧C.size=cap*4∧C.toList.take (xs.length*4)=bh xs:=by
   rcases hown.2 with ⟨e,_⟩|⟨g',cp,cu,e,hb,hh,hn,hm,hs,ht⟩
   ·exact absurd e hv
   ·exact⟨g',cp,e,cu,hh,hb,hn,hm,hs,ht⟩
  subst hve;have hg:=lt_of_block hC
  have hcells:∀k (hk:k<xs.length) q,q<4→C[k*4+q]?=xs[k].cells[q]?:=by
   intro k hk q hq;have h1:=gW xs k hk q hq;rw[←hCt,List.getElem?_take_of_lt (by omega),Array.getElem?_toList] at h1;exact h1
  have hbounds:BoundsAt w (some ⟨g,0,none⟩) xs:=by
   right
   refine⟨g,0,rfl,hg,fun i hi=>⟨?_,?_,?_,?_⟩⟩
   ·rw[cell_of_row _ _ _ _ _ _ hC,Nat.zero_add];exact hcells i hi 0 (by omega)
   ·rw[cell_of_row _ _ _ _ _ _ hC,Nat.zero_add];exact hcells i hi 1 (by omega)
   ·rw[cell_of_row _ _ _ _ _ _ hC,Nat.zero_add];exact hcells i hi 2 (by omega)
   ·rw[cell_of_row _ _ _ _ _ _ hC,Nat.zero_add];exact hcells i hi 3 (by omega)
  have hidx:=fD w (some ⟨g,0,none⟩) cap xs f caps Fix p (by omega) hbounds hFw hT eg
  by_cases hany:xs.any p=false
  ·rw[dc hany] at hidx
   have HI:=aa hidx;have HOW:=aa hown;clear hidx hown hT hF eg hFw hCt hcells hbounds hC;go_enter func240,ntmps240;go_wp2_with (go_at_call 248;refine HI.out.mono ?_;rintro e w1 ⟨rfl,hb1⟩);go_ret;refine⟨_,rfl,?_,hb1.mono hb0⟩;unfold cw;rw[km hany];exact av HOW.out (fun q e=>hb1.block q (o5 HOW.out e))
  ·have hnn:¬bk p xs<0:=by rw[ji];exact hany
   obtain⟨m,hm⟩:=Int.eq_ofNat_of_zero_le (Int.not_lt.1 hnn);obtain⟨m1,m2,_,m4⟩:=nH hm
   have hst0:DelBSt w g cap xs p m (m+1) C:=by
    have hf:(xs.take m).filter (fun x=>!p x)=xs.take m:=km m2;refine⟨hC,hCs,?_,fun k hk _=>hcells k hk,?_,hc⟩
    ·rw[ck m1,m4,if_pos rfl,List.append_nil,hf]
     have e1:(C.toList.take (xs.length*4)).take (m*4)=(bh xs).take (m*4):=by rw[hCt]
     rw[List.take_take,Nat.min_eq_left (by omega)] at e1;rw[e1]
     have e2:bh xs=bh (xs.take m)++bh (xs.drop m):=by rw[←dI,List.take_append_drop]
     rw[e2,List.take_left' (by rw[cU,List.length_take];omega)]
    ·rw[ck m1,m4,if_pos rfl,List.append_nil,hf,List.length_take];omega
   rw[hm] at hidx
   have hm0:((m:Int)==-1)=false:=by simp
   have HI:=aa hidx;have HST:=aa hst0;have HFW:=aa hFw;clear hidx hown hT hF eg hFw hCt hcells hbounds hC hst0 m2 m4 hany hnn hm;go_enter func240,ntmps240;go_wp2_with (go_at_call 248;refine HI.out.mono ?_;rintro e w1 ⟨rfl,hb1⟩);have hst1:DelBSt w1 g cap xs p m (m+1) C:=⟨(hb1.block g hg).trans HST.out.blk,HST.out.size,HST.out.head,HST.out.tail,HST.out.len,HST.out.fit⟩;have hk1:=KeepsB.below hb1 HFW.out;have HST1:=aa hst1;have HK1:=aa hk1;have HB1:=aa (hb1.mono hb0);clear hst1 hk1 hb1
   go_loopw [5,6] (fun i j wr=>∃(ii jj:Nat) (C:Array Value),i=.int .i64 ii∧j=.int .i64 jj∧ii<jj∧jj≤xs.length∧Hid (DelBSt wr g cap xs p ii jj C)∧Hid (KeepsB Fix w wr)∧Hid (Below base w wr)∧w1.heap.size≤wr.heap.size)
    (fun _ j _=>xs.length-(intOf j).toNat)
   case atStart=>exact⟨m,m+1,C,rfl,by go_num,by omega,by omega,HST1,HK1,HB1,Nat.le_refl _⟩
   case round =>
    obtain⟨ii,jj,D,rfl,rfl,hij,hjn,hst,hkp,hbl,hsz⟩:=hrel
    by_cases hlt:jj<xs.length
    ·have ht:=hst.out.tail jj hlt (Nat.le_refl _)
     have c0:wr.cell? ⟨g,jj*4,none⟩=some (.int .i64 xs[jj].src):=by rw[cell_of_row _ _ _ _ _ _ hst.out.blk];exact ht 0 (by omega)
     have c1:wr.cell? ⟨g,jj*4+1,none⟩=some (.int .i64 xs[jj].dst):=by rw[cell_of_row _ _ _ _ _ _ hst.out.blk];exact ht 1 (by omega)
     have c2:wr.cell? ⟨g,jj*4+1+1,none⟩=some (.int .i64 xs[jj].most):=by rw[cell_of_row _ _ _ _ _ _ hst.out.blk];exact ht 2 (by omega)
     have c3:wr.cell? ⟨g,jj*4+1+1+1,none⟩=some (.int .i64 xs[jj].rcd):=by rw[cell_of_row _ _ _ _ _ _ hst.out.blk];exact ht 3 (by omega)
     have hgw:=lt_of_block hst.out.blk;have ba:Below wr.heap.size wr (wr.alloc (.cells #[.int .i64 xs[jj].src,.int .i64 xs[jj].dst,.int .i64 xs[jj].most,.int .i64 xs[jj].rcd] 65)):=aD
     have hbx:base≤wr.heap.size:=by have:=hbl.out.size;omega
     have hka:=hkp.out.trans (KeepsB.below ba (fun b hb=>by have:=HF.out b hb;omega));have hcall:=HT.out jj hlt _ hka;unfold Bd.val at hcall;obtain⟨x,hx⟩:=ag (xs[jj]);rw[hx] at c0 c1 c2 c3 hcall ba hka;have HX:=aa hx;have eg':=EG.out;unfold Enters at eg';obtain⟨q,hq⟩:=ag (p x);rw[hq] at hcall;have HC:=aa hcall;have HQ:=aa hq;have HKA:=aa hka;have HBA:=aa ba;clear hcall hq hx hka ba ht;go_wp2_with fail;refine HC.out.mono ?_;rintro e w2 ⟨rfl,hb2⟩;have bl2:Below wr.heap.size wr w2:=HBA.out.trans (hb2.mono (by simp));have kp2:KeepsB Fix w w2:=HKA.out.trans (KeepsB.below hb2 (fun b hb=>by have:=HF.out b hb;simp;omega));have hblk2:=(bl2.block g hgw).trans hst.out.blk;have hx44:=ac hb2 (by simp) (heap_alloc_new wr (.cells #[.int .i64 x.src,.int .i64 x.dst,.int .i64 x.most,.int .i64 x.rcd] 65));have e0:w2.cell? ⟨wr.heap.size,0,none⟩=some (.int .i64 x.src):=bu hx44 rfl;have e1:w2.cell? ⟨wr.heap.size,1,none⟩=some (.int .i64 x.dst):=bu hx44 rfl;have e2:w2.cell? ⟨wr.heap.size,2,none⟩=some (.int .i64 x.most):=bu hx44 rfl;have e3:w2.cell? ⟨wr.heap.size,3,none⟩=some (.int .i64 x.rcd):=bu hx44 rfl;have HBL2:=aa bl2;have HKP2:=aa kp2;have HBK:=aa hblk2;clear hb2 bl2 kp2 hblk2 hx44 c0 c1 c2 c3
     cases q with
     | true =>
       go_wp2_with fail;go_roundw
       case rel =>
        exact⟨ii,jj+1,D,rfl,by go_num,by omega,by omega,aa (hst.out.skip hlt (by rw[HX.out];exact HQ.out) (HBL2.out.block g hgw)),HKP2,aa (hbl.out.trans (HBL2.out.mono hbx)),by have:=HBL2.out.size;omega⟩
       case measure=>simp[intOf];omega
     | false =>
       have hil:ii<xs.length:=by omega
       have hDs:ii*4+3<D.size:=by rw[hst.out.size];have:=hst.out.fit;omega
       obtain⟨z0,hz0⟩:∃z,D[ii*4]?=some z:=⟨_,Array.getElem?_eq_getElem (by omega)⟩;obtain⟨z1,hz1⟩:∃z,D[ii*4+1]?=some z:=⟨_,Array.getElem?_eq_getElem (by omega)⟩;obtain⟨z2,hz2⟩:∃z,D[ii*4+2]?=some z:=⟨_,Array.getElem?_eq_getElem (by omega)⟩;obtain⟨z3,hz3⟩:∃z,D[ii*4+3]?=some z:=⟨_,Array.getElem?_eq_getElem (by omega)⟩
       have i0:w2.cell? ⟨g,ii*4,none⟩=some z0:=by rw[cell_of_row _ _ _ _ _ _ HBK.out];exact hz0
       have i1:w2.cell? ⟨g,ii*4+1,none⟩=some z1:=by rw[cell_of_row _ _ _ _ _ _ HBK.out];exact hz1
       have i2:w2.cell? ⟨g,ii*4+1+1,none⟩=some z2:=by rw[cell_of_row _ _ _ _ _ _ HBK.out];exact hz2
       have i3:w2.cell? ⟨g,ii*4+1+1+1,none⟩=some z3:=by rw[cell_of_row _ _ _ _ _ _ HBK.out];exact hz3
       have ff:∀i,w2.frozen? ⟨g,i,none⟩=false:=fun i=>frozen_of_row _ _ _ _ _ HBK.out
       clear hz0 hz1 hz2 hz3;go_wp2_with fail;go_roundw
       case rel =>
        refine⟨ii+1,jj+1,qO D ii xs[jj],by go_num,by go_num,by omega,by omega,aa (hst.out.take hlt (by omega) (by rw[HX.out];exact HQ.out) ?_),aa (HKP2.out.trans ⟨by simp,fun b hb=>?_⟩),aa (((((hbl.out.trans (HBL2.out.mono hbx)).setCell (by exact hb) _).setCell (by exact hb) _).setCell (by exact hb) _).setCell (by exact hb) _),by have:=HBL2.out.size;simp;omega⟩
        ·rw[HX.out]
         exact heap_setCell_same _ _ _ _ _ _ (heap_setCell_same _ _ _ _ _ _ (heap_setCell_same _ _ _ _ _ _ (heap_setCell_same _ _ _ _ _ _ HBK.out)))
        ·have hne:b≠g:=by have:=HF.out b hb;omega
         exact(heap_setCell_other _ _ _ _ hne).trans ((heap_setCell_other _ _ _ _ hne).trans ((heap_setCell_other _ _ _ _ hne).trans (heap_setCell_other _ _ _ _ hne)))
       case measure=>simp[intOf];omega
    ·obtain rfl:jj=xs.length:=by omega
     have hcl:∀ty,∃zs:List Value,(Builtin.clear_ #[59] ty #[.slice (some ⟨g,ii*4,none⟩) (xs.length-ii) (cap-ii)]).run prog wr=.ok (.tuple #[]) (wr.setCells g (ii*4) zs) :=
      fun ty=>lx wr ty g (ii*4) _ _ (by omega) (fun j hj=>by
       rw[cell_of_row _ _ _ _ _ _ hst.out.blk,Array.getElem?_eq_getElem (by rw[hst.out.size];have:=hst.out.fit;omega)];rfl) (fun j _=>frozen_of_row _ _ _ _ _ hst.out.blk)
     obtain⟨zs,hzs⟩:=hcl 0;have HST2:=aa hst.out;obtain⟨C',hC1,hC2,hC3⟩:=je (g:=g) zs (ii*4) wr D hst.out.blk;have hbx:Below base w (wr.setCells g (ii*4) zs):=jd hbl.out hb _ _;have HBX:=aa hbx;have HC1:=aa hC1;have HC3:=aa hC3;have hii:ii<xs.length:=hij;clear hst hC1 hC3 hbx hcl;go_wp2_with fail;go_ret;have hall:xs.take xs.length=xs:=List.take_of_length_le (Nat.le_refl _);have hh:=HST2.out.head;have hn:=HST2.out.len;rw[hall] at hh hn;refine⟨_,rfl,?_,HBX.out⟩;unfold cw;rw[hn];refine⟨by rw[cU,hn],.inr ⟨g,cap,C',rfl,hb,HC1.out,by omega,hcm,by rw[hC2,HST2.out.size],?_⟩⟩;rw[←hh]
     apply List.ext_getElem?
     intro k;rw[List.getElem?_take,List.getElem?_take]
     split
     ·rw[Array.getElem?_toList,Array.getElem?_toList];exact HC3.out k ‹_›
     ·rfl
def np (d e:Int):Array Value:=#[.int .i64 (-nV e),.int .i64 (nV d),.bool (nB e),.bool (nB d)]
theorem qB {W w1:World} (hb:Below W.heap.size W w1):(∀b o,b<W.heap.size→w1.cell? ⟨b,o,none⟩=W.cell? ⟨b,o,none⟩)∧(∀b o,b<W.heap.size→w1.frozen? ⟨b,o,none⟩=W.frozen? ⟨b,o,none⟩) :=
 ⟨fun b o h=>hb.cell (p:=⟨b,o,none⟩) h,fun b o h=>hb.frozen (p:=⟨b,o,none⟩) h⟩
theorem zQ (w:World) (bn R:Nat) (a:Option Addr) (cap:Nat) (bs:List Bd) (t:List Int) (x y:Nat) (HO:NetOk R bs t) (hx:x<R) (hy:y<R) (hB:BoundsAt w a bs) (hn:w.heap[bn]?=some (.cells (lG R (.slice a bs.length cap) t) 265 (0,0))) :
 Calls prog 144 #[.pointer (some ⟨bn,0,none⟩),.int .i64 x,.int .i64 y] w fun e w'=>e=.returned (.agg (np ((dW R t bs x).getD y 0) ((dW R t bs y).getD x 0)))∧Below w.heap.size w w':=by
 have dn:∀q,q<R→∀W,Below w.heap.size w W→Hid (W.heap[w.heap.size]?=some (.cells #[.int .i64 0,.int .i64 0,.bool false,.bool false] 115 (0,0)))→Calls prog 191 #[.pointer (some ⟨bn,0,none⟩),.int .i64 (q:Int),.func (.func 152) #[] #[]] W fun e W'=>e=.returned (.agg (bt (dW R t bs q)))∧Below w.heap.size w W'∧Below W.heap.size W W'∧Hid (W'.heap[w.heap.size]?=some (.cells #[.int .i64 0,.int .i64 0,.bool false,.bool false] 115 (0,0))) :=
  fun q hq W hb hz=>(ki W bn R a cap bs t q HO hq (hB.below hb (Nat.le_refl _)) (ac hb (lt_of_block hn) hn)).mono fun e W' ⟨h1,h2⟩=>⟨h1,bB hb h2,h2,aa (ac h2 (lt_of_block hz.out) hz.out)⟩
 have hn1:=HO.n1;obtain⟨r1,hr1⟩:=ag (dW R t bs x);obtain⟨r2,hr2⟩:=ag (dW R t bs y);have dx:=dn x hx;have dy:=dn y hy
 have l1:r1.length=128:=by rw[←hr1];exact(HO.row hx).1
 have l2:r2.length=128:=by rw[←hr2];exact(HO.row hy).1
 have b2:=HO.row_bd hy hx;rw[hr2] at b2;rw[hr1] at dx;rw[hr2] at dy
 have i1:=fun W=>fY W r1 y l1 (by omega)
 have i2:=fun W=>fY W r2 x l2 (by omega)
 obtain⟨v1,hv1⟩:=ag (r1.getD y 0);obtain⟨v2,hv2⟩:=ag (r2.getD x 0);rw[hv1] at i1;rw[hv2] at i2 b2;have HR1:=aa hr1;have HR2:=aa hr2;have HV1:=aa hv1;have HV2:=aa hv2;have DX:=aa dx;have DY:=aa dy;clear hr1 hr2 hv1 hv2 dn l1 l2 hB hn HO dx dy;go_enter func144,ntmps144;go_upto_region 1 with fail
 go_cut [7] (fun s7 wx=>∃b7:Nat,s7=.pointer (some ⟨b7,0,none⟩)∧Hid (wx.heap[b7]?=some (.cells #[.int .i64 v1,.int .i64 v2] 240 (0,0)))∧w.heap.size<wx.heap.size∧Hid (wx.heap[w.heap.size]?=some (.cells #[.int .i64 0,.int .i64 0,.bool false,.bool false] 115 (0,0)))∧Below w.heap.size w wx)
 case first =>
  go_region_with (first
   | (go_at_call 191;(with_reducible refine(DX.out _ ?_ ?_).mono ?_);(· first|(exact(aD).drew)|(exact((aD).alloc (by simp) _).drew));(· first|(exact aa (heap_alloc_new _ _))|(exact aa ((Below.heap_alloc _ _ _ (by simp)).trans (heap_alloc_new _ _))));rintro e W2 ⟨rfl,g1,g2,gz⟩;(obtain⟨gc1,gc2⟩:=qB g2);have gs:=g2.size;(try simp at gs);(try (have gz1:w.heap.size+1<W2.heap.size:=by omega));(try clear gs))
   | (go_at_call 191;(with_reducible refine(DY.out _ ?_ ?_).mono ?_);(· first|(exact g1)|(exact g1.alloc g1.size _));(· first|(exact gz)|(exact aa ((Below.heap_alloc _ _ _ (lt_of_block gz.out)).trans gz.out)));rintro e W3 ⟨rfl,h1,h2,hz⟩;(obtain⟨hc1,hc2⟩:=qB h2)))
  all_goals (go_wp2_with fail;go_meet)
  all_goals first
   | exact⟨_,rfl,aa (heap_alloc_new _ _),by simp;have:=h1.size;omega,aa ((Below.heap_alloc _ _ _ (lt_of_block hz.out)).trans hz.out),h1.alloc h1.size _⟩
   | exact⟨_,rfl,aa ((heap_setCell_same _ _ _ _ _ _ (heap_setCell_same _ _ _ _ _ _ ((h2.block _ (by simp)).trans (heap_alloc_new _ _)))).trans rfl),by simp;exact lt_of_block hz.out,aa ((heap_setCell_other _ _ _ _ (by have:=lt_of_block gz.out;simp;omega)).trans ((heap_setCell_other _ _ _ _ (by have:=lt_of_block gz.out;simp;omega)).trans hz.out)),(h1.setCell (by have:=lt_of_block gz.out;simp;omega) _).setCell (by have:=lt_of_block gz.out;simp;omega) _⟩
   | exact⟨_,rfl,aa ((heap_setCell_same _ _ _ _ _ _ (heap_setCell_same _ _ _ _ _ _ ((h2.block _ (by omega)).trans ((g2.block _ (by simp)).trans (af _ _ _ (by simp)))))).trans rfl),by simp;exact lt_of_block hz.out,aa ((heap_setCell_other _ _ _ _ (by simp)).trans ((heap_setCell_other _ _ _ _ (by simp)).trans hz.out)),(h1.setCell (by simp) _).setCell (by simp) _⟩
 case rest =>
  obtain⟨b7,rfl,h7,hls,hz,hb⟩:=hcut;obtain⟨wA,rfl⟩:∃x:World,x=wc:=⟨wc,rfl⟩;have k0:wA.cell? ⟨b7,0,none⟩=some (.int .i64 v1):=bu h7.out rfl;have k1:wA.cell? ⟨b7,1,none⟩=some (.int .i64 v2):=bu h7.out rfl;have l7:=lt_of_block h7.out;have B1:Below w.heap.size w (wA.alloc (.cells #[.int .i64 0,.int .i64 0,.bool false,.bool false] 115)):=hb.alloc hb.size _
  have lh1:(Instr.lookup 242 (.map (some (wA.heap.size+1))) (.string ⟨#[104,105,103,104]⟩) false).run prog ((wA.alloc (.cells #[.int .i64 0,.int .i64 0,.bool false,.bool false] 115)).alloc d7).drew=.ok (.func (.func 267) #[] #[]) ((wA.alloc (.cells #[.int .i64 0,.int .i64 0,.bool false,.bool false] 115)).alloc d7).drew :=
   gw (r:=wA.heap.size+1) (i:=0) underlying242 underlying9 (af (wA.alloc (.cells #[.int .i64 0,.int .i64 0,.bool false,.bool false] 115)) d7 _ (by simp)) (by rfl)
  go_wp2_with fail
  go_cut [8] (fun s8 wx=>s8=.pointer (some ⟨wA.heap.size,0,none⟩)∧Hid (wx.heap[wA.heap.size]?=some (.cells #[.int .i64 0,.int .i64 (nV v1),.bool false,.bool (nB v1)] 115 (0,0)))∧Hid (Below wA.heap.size wA wx))
  case first =>
   go_region_with (first
    | (go_at_call 223;refine(tZ _).mono ?_;rintro e W2 ⟨rfl,rfl⟩)
    | (go_at_call 267;refine(zP _ _ _).mono ?_;rintro e W3 ⟨rfl,h1⟩;(obtain⟨hc1,hc2⟩:=qB h1)))
   all_goals (go_wp2_with fail;go_meet)
   all_goals exact⟨rfl,aa ((heap_setCell_same _ _ _ _ _ _ (heap_setCell_same _ _ _ _ _ _ ((h1.block wA.heap.size (by simp;omega)).trans ((Below.heap_alloc (wA.alloc (.cells #[.int .i64 0,.int .i64 0,.bool false,.bool false] 115)) d7 wA.heap.size (by simp)).trans (heap_alloc_new wA (.cells #[.int .i64 0,.int .i64 0,.bool false,.bool false] 115)))))).trans rfl),aa ((((((Below.refl wA.heap.size wA).alloc (Nat.le_refl _) (.cells #[.int .i64 0,.int .i64 0,.bool false,.bool false] 115)).alloc (by simp) d7).drew.trans (h1.mono (by simp;omega))).setCell (by simp) _).setCell (by simp) _)⟩
  case rest =>
   clear lh1;obtain⟨rfl,h8,hb8⟩:=hcut;obtain⟨wd,rfl⟩:∃x:World,x=wc:=⟨wc,rfl⟩;have k0':wd.cell? ⟨b7,0,none⟩=some (.int .i64 v1):=(hb8.out.cell (by exact l7)).trans k0;have k1':wd.cell? ⟨b7,1,none⟩=some (.int .i64 v2):=(hb8.out.cell (by exact l7)).trans k1
   have l7':b7<wd.heap.size:=by have:=hb8.out.size;omega
   have lh2:(Instr.lookup 242 (.map (some wd.heap.size)) (.string ⟨#[108,111,119]⟩) false).run prog (wd.alloc d7).drew=.ok (.func (.func 268) #[] #[]) (wd.alloc d7).drew :=
    gw (r:=wd.heap.size) (i:=1) underlying242 underlying9 (af wd d7 _ rfl) (by rfl)
   go_wp2_with fail
   go_cut [8] (fun s8 wx=>s8=.pointer (some ⟨wA.heap.size,0,none⟩)∧Hid (wx.heap[wA.heap.size]?=some (.cells (np v1 v2) 115 (0,0)))∧Hid (Below wA.heap.size wA wx))
   case first =>
    have l8:=lt_of_block h8.out
    have l8':wA.heap.size<wd.heap.size+1:=by omega
    have p0:wd.cell? ⟨wA.heap.size,0,none⟩=some (.int .i64 0):=bu h8.out rfl;have p2:wd.cell? ⟨wA.heap.size,2,none⟩=some (.bool false):=bu h8.out rfl;have f0:wd.frozen? ⟨wA.heap.size,0,none⟩=false:=frozen_of_row _ _ _ _ _ h8.out;have f2:wd.frozen? ⟨wA.heap.size,2,none⟩=false:=frozen_of_row _ _ _ _ _ h8.out
    go_region_with (first
     | (go_at_call 223;refine(tZ _).mono ?_;rintro e W2 ⟨rfl,rfl⟩)
     | (go_at_call 268;refine(Aq _ _ _ (by omega)).mono ?_;rintro e W3 ⟨rfl,h1⟩;(obtain⟨hc1,hc2⟩:=qB h1)))
    all_goals (go_wp2_with fail;go_meet)
    all_goals exact⟨rfl,aa ((heap_setCell_same _ _ _ _ _ _ (heap_setCell_same _ _ _ _ _ _ ((h1.block wA.heap.size (by simp;omega)).trans ((Below.heap_alloc wd d7 wA.heap.size l8).trans h8.out)))).trans rfl),aa (((hb8.out.trans ((((Below.refl wd.heap.size wd).alloc (Nat.le_refl _) d7).drew.trans (h1.mono (by simp))).mono (by omega))).setCell (by simp) _).setCell (by simp) _)⟩
   case rest =>
    obtain⟨rfl,h9,hb9⟩:=hcut;obtain⟨wf,rfl⟩:∃x:World,x=wc:=⟨wc,rfl⟩;have hz9:=(hb9.out.block w.heap.size hls).trans hz.out
    have f0:∀i,wf.frozen? ⟨w.heap.size,i,none⟩=false:=fun i=>frozen_of_row _ _ _ _ _ hz9
    have e0:wf.cell? ⟨w.heap.size,0,none⟩=some (.int .i64 0):=bu hz9 rfl;have e1:wf.cell? ⟨w.heap.size,1,none⟩=some (.int .i64 0):=bu hz9 rfl;have e2:wf.cell? ⟨w.heap.size,2,none⟩=some (.bool false):=bu hz9 rfl;have e3:wf.cell? ⟨w.heap.size,3,none⟩=some (.bool false):=bu hz9 rfl;have g0:wf.cell? ⟨wA.heap.size,0,none⟩=some (.int .i64 (-nV v2)):=bu h9.out rfl;have g1:wf.cell? ⟨wA.heap.size,1,none⟩=some (.int .i64 (nV v1)):=bu h9.out rfl;have g2:wf.cell? ⟨wA.heap.size,2,none⟩=some (.bool (nB v2)):=bu h9.out rfl;have g3:wf.cell? ⟨wA.heap.size,3,none⟩=some (.bool (nB v1)):=bu h9.out rfl;have bf:=aa (bB hb hb9.out);clear hz9;go_wp2_with fail;refine bodyPost_ret (v:=.agg (np v1 v2)) (by simp[results,results144,go_sem,np,e0,e1,e2,e3]) rfl ⟨?_,?_⟩
    ·rw[HR1.out,HR2.out,HV1.out,HV2.out]
    ·exact(((bf.out.setCell (by simp) _).setCell (by simp) _).setCell (by simp) _).setCell (by simp) _
theorem rk (w:World) (a:Option Addr) (cap:Nat) (l:List Int) (x:Int) (hl:l.length≤9223372036854775807) (h:IntsAt w a l) :
 Calls prog 243 #[.slice a l.length cap,.int .i64 x] w fun e w'=>e=.returned (.bool (l.contains x))∧w=w':=by
 rcases h with e|⟨b,off,e,_,hc⟩
 ·subst e
  exact(Tryz.slices_Contains_int_empty a cap x w).mono fun e w' ⟨h1,h2⟩=>⟨by rw[h1];simp,h2.symm⟩
 ·subst e
  refine(Tryz.slices_Contains_int b off l.length cap l x w (Nat.le_refl _) hl (fun j hj=>by rw[hc j hj,i5 l 0 hj])).mono fun e w' ⟨h1,h2⟩=>⟨by rw[h1,List.take_of_length_le (Nat.le_refl _)],h2.symm⟩
theorem rB (w:World) (b:Bd) (bl:Nat) (a:Option Addr) (cap:Nat) (l:List Int) (hl:l.length≤9223372036854775807) (h:IntsAt w a l) (hc:w.cell? ⟨bl,0,none⟩=some (.slice a l.length cap)) (hbl:bl<w.heap.size) :
 Calls prog 242 #[b.val,.pointer (some ⟨bl,0,none⟩)] w fun e w'=>e=.returned (.bool (l.contains b.rcd))∧Below w.heap.size w w':=by
 unfold Bd.val;have H:=aa (h.alloc (.cells #[.int .i64 b.src,.int .i64 b.dst,.int .i64 b.most,.int .i64 b.rcd] 65));clear h;go_enter func242,ntmps242;go_wp2_with (go_at_call 243;refine(rk _ a cap l _ hl H.out).mono ?_;rintro e w' ⟨rfl,rfl⟩);go_ret;exact⟨by simp,aD⟩
def fc (bs:List Bd) (l:List Int):List Bd:=bs.filter fun b=>!l.contains b.rcd
theorem d8 {W:World} {base:Nat} {v:Value} {l:List Bd} (h:cw l base v W):∃o cap,v=.slice o l.length cap∧BoundsAt W o l∧jq o l.length cap:=by
 unfold cw at h
 rcases h.2 with ⟨e,h0⟩|⟨gb,cp,cur,e,_,hh,hn,_,hsz,htk⟩
 ·exact⟨none,0,by rw[e,h0],.inl (List.length_eq_zero_iff.1 h0),fun _=>⟨h0,rfl⟩⟩
 ·refine⟨_,_,e,.inr ⟨gb,0,rfl,lt_of_block hh,fun i hi=>?_⟩,fun e=>by cases e⟩
  have key:∀j v,j<4→(l[i]).cells[j]?=some v→W.cell? ⟨gb,0+i*4+j,none⟩=some v:=by
   intro j v hj hv;rw[cell_of_row _ _ _ _ _ _ hh,Nat.zero_add]
   have hlt:i*4+j<l.length*4:=by omega
   have:=gW l i hi j hj;rw[←htk,List.getElem?_take_of_lt hlt,hv] at this;simpa using this
  exact⟨key 0 _ (by omega) rfl,key 1 _ (by omega) rfl,key 2 _ (by omega) rfl,key 3 _ (by omega) rfl⟩
theorem IntsAt.kept {w0 W:World} {a:Option Addr} {l:List Int} (h:IntsAt w0 a l) (hk:∀b,b<w0.heap.size→W.heap[b]?=w0.heap[b]?) (hs:w0.heap.size≤W.heap.size):IntsAt W a l:=by
 rcases h with e|⟨b,off,e,hb,hc⟩
 ·exact .inl e
 ·exact .inr ⟨b,off,e,Nat.lt_of_lt_of_le hb hs,fun i hi=>(World.cell?_of_block (w:=w0) (hk b hb)).trans (hc i hi)⟩
theorem tJ (w W0 w1:World) (l:List Int) (bs:List Bd) (a2:Option Addr) (cap2:Nat) (v:Value) (hl:bs.length≤4000) (hl2:l.length≤9223372036854775807) (_b0:Below w.heap.size w W0) (z0:W0.heap.size=w.heap.size+3)
 (x1:W0.heap[w.heap.size+1]?=some (.cells #[.slice a2 l.length cap2] 52 (0,0))) (h2:IntsAt W0 a2 l) (ho:cw bs W0.drew.heap.size v w1) (hb:Below W0.drew.heap.size W0.drew w1) :
 Calls prog 240 #[v,.func (.func 242) #[] #[.pointer (some ⟨w.heap.size+1,0,none⟩)]] w1 fun e w'=>∃o n c,e=.returned (.slice o n c)∧cw (fc bs l) W0.heap.size (.slice o n c) w'∧Below W0.heap.size w1 w':=by
 have hb':Below W0.heap.size W0 w1:=(Below.refl W0.heap.size W0).drew.trans hb
 refine(lf w1 W0.heap.size v bs 242 #[.pointer (some ⟨w.heap.size+1,0,none⟩)] (·<W0.heap.size) (fun b=>l.contains b.rcd) (by omega) ho hb'.size (fun b hb=>hb) ?_ (enters_of func242 (by kernel_rfl) rfl)).mono (fun e w' ⟨v',h1,h2,h3⟩=>by
  obtain⟨o,c,e1,_⟩:=d8 h2;subst e1
  exact⟨o,_,c,h1,h2,h3⟩)
 intro k hk W hkp
 have hk0:∀b,b<W0.heap.size→W.heap[b]?=W0.heap[b]?:=fun b hb=>(hkp.same b hb).trans (hb'.block b hb)
 exact rB W bs[k] (w.heap.size+1) a2 cap2 l hl2 (h2.kept hk0 (Nat.le_trans hb'.size hkp.size)) (cell_of_one ((hk0 _ (by omega)).trans x1)) (Nat.lt_of_lt_of_le (by omega) (Nat.le_trans hb'.size hkp.size))
theorem uW (w W0 w1 w2:World) (z0:W0.heap.size=w.heap.size+3) (x2:W0.heap[w.heap.size+2]?=some (.cells #[.int .i64 0,.slice none 0 0] 61 (0,0))) (hb:Below W0.drew.heap.size W0.drew w1) (hb2:Below W0.heap.size w1 w2) :
 w2.cell? ⟨w.heap.size+2,0,none⟩=some (.int .i64 0)∧w2.cell? ⟨w.heap.size+2,1,none⟩=some (.slice none 0 0)∧w2.frozen? ⟨w.heap.size+2,0,none⟩=false∧w2.frozen? ⟨w.heap.size+2,1,none⟩=false∧w2.heap[w.heap.size+2]?=some (.cells #[.int .i64 0,.slice none 0 0] 61 (0,0)):=by
 have h:w2.heap[w.heap.size+2]?=some (.cells #[.int .i64 0,.slice none 0 0] 61 (0,0)):=(hb2.block _ (by omega)).trans ((hb.block _ (by show _<W0.heap.size;omega)).trans x2);exact⟨by rw[cell_of_row _ _ _ _ _ _ h];rfl,by rw[cell_of_row _ _ _ _ _ _ h];rfl,frozen_of_row _ _ _ _ _ h,frozen_of_row _ _ _ _ _ h,h⟩
theorem tM (w:World) (N:Int) (a:Option Addr) (cap:Nat) (bs:List Bd) (a2:Option Addr) (cap2:Nat) (l:List Int) (hl:bs.length≤4000) (hs:jq a bs.length cap) (h:BoundsAt w a bs) (hl2:l.length≤9223372036854775807) (h2:IntsAt w a2 l) :
 Calls prog 172 #[.agg #[.int .i64 N,.slice a bs.length cap],.slice a2 l.length cap2] w fun e w'=>∃v,e=.returned (.agg #[.int .i64 N,v])∧cw (fc bs l) w.heap.size v w'∧Below w.heap.size w w':=by
 obtain⟨W0,hW0⟩:=ag (((w.alloc (.cells #[.int .i64 N,.slice a bs.length cap] 61)).alloc (.cells #[.slice a2 l.length cap2] 52)).alloc (.cells #[.int .i64 0,.slice none 0 0] 61))
 have b0:Below w.heap.size w W0:=by rw[←hW0];exact((aD).alloc (by simp) _).alloc (by simp;omega) _
 have x0:W0.heap[w.heap.size]?=some (.cells #[.int .i64 N,.slice a bs.length cap] 61 (0,0)):=by rw[←hW0,Below.heap_alloc _ _ _ (by simp;omega),Below.heap_alloc _ _ _ (by simp),heap_alloc_new]
 have x1:W0.heap[w.heap.size+1]?=some (.cells #[.slice a2 l.length cap2] 52 (0,0)):=by rw[←hW0,Below.heap_alloc _ _ _ (by simp),af _ _ _ (by simp)]
 have x2:W0.heap[w.heap.size+2]?=some (.cells #[.int .i64 0,.slice none 0 0] 61 (0,0)):=by rw[←hW0,af _ _ _ (by simp)]
 have z0:W0.heap.size=w.heap.size+3:=by rw[←hW0];simp
 have H:=aa (h.below b0 (Nat.le_refl _));have H2:=aa (h2.below b0 (Nat.le_refl _));have c0:W0.cell? ⟨w.heap.size,0,none⟩=some (.int .i64 N):=bu x0 rfl;have c1:W0.cell? ⟨w.heap.size,1,none⟩=some (.slice a bs.length cap):=bu x0 rfl;have HW:=aa hW0;have B0:=aa b0;have X1:=aa x1;have X2:=aa x2;have Z0:=aa z0;clear h h2 hW0 b0 x0 x1 x2 z0
 have l0:w.heap.size<W0.heap.size:=by have:=Z0.out;omega
 go_enter func172,ntmps172;go_upto_region 1 with fail;rw[HW.out]
 go_cut [4] (fun s4 wx=>s4=.pointer (some ⟨w.heap.size+1+1,0,none⟩)∧∃v,Hid (wx.heap[w.heap.size+2]?=some (.cells #[.int .i64 N,v] 61 (0,0)))∧Hid (cw (fc bs l) w.heap.size v wx)∧Hid (Below w.heap.size w wx))
 case first =>
  have hclo:=mW W0.drew a cap bs hl hs (H.out.below ((Below.refl W0.heap.size W0).drew) (Nat.le_refl _));have HCLO:=aa hclo;clear hclo
  go_region_held3 (fun w'=>w'.cell? ⟨w.heap.size,0,none⟩=some (.int .i64 N)∧w'.cell? ⟨w.heap.size,1,none⟩=some (.slice a bs.length cap)) (first|go_keep|(exact⟨(World.cell?_of_block (w:=w2) ((heap_setCell_other _ _ _ _ (by simp;omega)).trans (heap_setCell_other _ _ _ _ (by simp;omega)))).trans q0,(World.cell?_of_block (w:=w2) ((heap_setCell_other _ _ _ _ (by simp;omega)).trans (heap_setCell_other _ _ _ _ (by simp;omega)))).trans q1⟩))
   (first
    | (go_at_call 241;refine HCLO.out.mono ?_;rintro e w1 ⟨v,rfl,ho,hb⟩;(have u0:w1.cell? ⟨w.heap.size,0,none⟩=some (.int .i64 N):=(hb.cell (p:=⟨w.heap.size,0,none⟩) l0).trans c0);(have u1:w1.cell? ⟨w.heap.size,1,none⟩=some (.slice a bs.length cap):=(hb.cell (p:=⟨w.heap.size,1,none⟩) l0).trans c1);have HO1:=aa ho;have HB1:=aa hb;(try clear ho hb))
    | (go_at_call 240;refine(tJ w W0 w1 l bs a2 cap2 v hl hl2 B0.out Z0.out X1.out H2.out HO1.out HB1.out).mono ?_;rintro e w2 ⟨o2,n2,k2,rfl,ho2,hb2⟩;(have q0:w2.cell? ⟨w.heap.size,0,none⟩=some (.int .i64 N):=(hb2.cell (p:=⟨w.heap.size,0,none⟩) l0).trans u0);(have q1:w2.cell? ⟨w.heap.size,1,none⟩=some (.slice a bs.length cap):=(hb2.cell (p:=⟨w.heap.size,1,none⟩) l0).trans u1);(have q2:=uW w W0 w1 w2 Z0.out X2.out HB1.out hb2);(have q3:w2.cell? ⟨w.heap.size+1+1,0,none⟩=some (.int .i64 0):=q2.1);(have q4:w2.cell? ⟨w.heap.size+1+1,1,none⟩=some (.slice none 0 0):=q2.2.1);(have q5:w2.frozen? ⟨w.heap.size+1+1,0,none⟩=false:=q2.2.2.1);(have q6:w2.frozen? ⟨w.heap.size+1+1,1,none⟩=false:=q2.2.2.2.1);have q7:=aa q2.2.2.2.2;(try clear q2);have HO2:=aa ho2;have HB2:=aa hb2;(try clear ho2 hb2)))
  all_goals (go_wp2_with fail;go_meet)
  all_goals refine⟨rfl,.slice o2 n2 k2,aa ?_,aa ?_,aa ?_⟩
  all_goals first
   | exact(heap_setCell_same _ _ _ _ _ _ (heap_setCell_same _ _ _ _ _ _ q7.out)).trans rfl
   | exact(bF (ownsRow_setCell_below (ownsRow_setCell_below HO2.out (by show w.heap.size+1+1<_;have:=Z0.out;omega) _) (by show w.heap.size+1+1<_;have:=Z0.out;omega) _) B0.out.size)
   | exact((((B0.out.drew.trans (HB1.out.mono B0.out.size)).trans (HB2.out.mono B0.out.size)).setCell (by simp;omega) _).setCell (by simp;omega) _)
 case rest =>
  obtain⟨rfl,v,h1,h2,h3⟩:=hcut;obtain⟨wf,rfl⟩:∃x:World,x=wc:=⟨wc,rfl⟩;have e0:wf.cell? ⟨w.heap.size+1+1,0,none⟩=some (.int .i64 N):=bu h1.out rfl;have e1:wf.cell? ⟨w.heap.size+1+1,1,none⟩=some v:=bu h1.out rfl;clear c0 c1;go_wp2_with fail;exact bodyPost_ret (v:=.agg #[.int .i64 N,v]) (by simp[results,results172,go_sem,e0,e1]) rfl ⟨v,rfl,h2.out,h3.out⟩
theorem iT (w:World) (base:Nat) (t ty e:TypeId) (i:TypeInfo) (size:Nat) (ht:Tryz.prog.underlying t=some (.slice e)) (hi:Tryz.prog.info? e=some i)
 (v:Value) (n:Nat) (xs:List Value) (hown:w.ownsRow base e size v n xs) (c:Nat):(Builtin.append_ #[t,t] ty #[v,.slice none 0 c]).run prog w=.ok v w:=by
 rcases hown.2 with ⟨rfl,rfl⟩|⟨g,cap,cur,rfl,_,_,hnc,_⟩
 ·simp[Builtin.append_,run_underlying ht,sizeOf,typeInfo,hi,Builtin.lenOf,Builtin.firstCells]
 ·simp[Builtin.append_,run_underlying ht,sizeOf,typeInfo,hi,Builtin.lenOf,Builtin.firstCells,hnc,storeCells]
theorem uL (l:List Int):∀u∈ay l,u.oneCell'=true:=by intro u hu;simp[ay] at hu;obtain⟨q,_,rfl⟩:=hu;rfl
theorem tX {w:World} {b off:Nat} {l:List Int} (h:∀i (hi:i<l.length),w.cell? ⟨b,off+i,none⟩=some (.int .i64 l[i])):∀j u,(ay l)[j]?=some u→w.cell? ((⟨b,off,none⟩:Addr).add j)=some u:=by
 intro j u hj;rw[show((⟨b,off,none⟩:Addr).add j)=⟨b,off+j,none⟩ from by unfold Addr.add;split<;>simp_all]
 have hlt:j<l.length:=by have:=(List.getElem?_eq_some_iff.1 hj).1;simpa [ay] using this
 rw[h j hlt];simpa [ay,hlt] using hj
theorem zq (a b:List Bd):bh (a++b)=bh a++bh b:=dI a b
theorem yv (a b:List Int):ay (a++b)=ay a++ay b:=by simp[ay]
theorem ol {P:Program} {o:Oper} {a:Act} {w w':World} {s x:Operand} {t u:TypeId} {vs vx v:Value} (hop:o.op=Op.call { callee:=Callee.builtin Builtin.append,args:=#[s,x],argTypes:=#[t,u] })
 (hs:a.eval s=vs) (hx:a.eval x=vx) (hrun:(Builtin.append_ #[t,u] o.type #[vs,vx]).run P w=.ok v w'):(execOp a.eval o).run P w=.ok (.value v) w':=by
 simp[execOp,hop,resolve,invoke,builtin,hs,hx,hrun,Result.andThen]
theorem nZ {P:Program} {ops:Array Oper} {rest:List Oper} {o:Oper} {a:Act} {w:World} {Q:Exit→Act→World→Prop} (hg:o.guard=none) {w':World} {s x:Operand} {t u:TypeId} {vs vx v:Value}
 (hop:o.op=Op.call { callee:=Callee.builtin Builtin.append,args:=#[s,x],argTypes:=#[t,u] }) (hs:a.eval s=vs) (hx:a.eval x=vx) (hrun:(Builtin.append_ #[t,u] o.type #[vs,vx]).run P w=.ok v w')
 (h:wpList P ops Q rest (a.put o.dst v) w'):wpList P ops Q (o::rest) a w :=
 wpList_plain hg fun K hK=>by
  unfold Oper.wp;rw[ol hop hs hx hrun];exact hK _ _ h
theorem mH (w:World) (base:Nat) (v:Value) (xs:List Int) (hown:w.ownsRow base 3 1 v xs.length (ay xs)) (a:Option Addr) (cap:Nat) (l:List Int) (h:IntsAt w a l) (hx:xs.length≤100000) (hl:l.length≤100000) (hb:base≤w.heap.size) (ty:TypeId) :
 ∃v' w',(Builtin.append_ #[52,52] ty #[v,.slice a l.length cap]).run prog w=.ok v' w'∧w'.ownsRow base 3 1 v' (xs++l).length (ay (xs++l))∧Below base w w':=by
 obtain⟨i0,hi,hz0,hz1,hz2⟩:=info_parts wJ
 cases a with
 | none =>
   have hl0:l=[]:=by rcases h with e|⟨b,off,e,_⟩;exact e;cases e
   subst hl0;exact⟨v,w,iT w base 52 ty 3 i0 1 underlying52 hi v _ _ hown cap,by simpa using hown,Below.refl _ _⟩
 | some ad =>
   have hnews:∀j u,(ay l)[j]?=some u→w.cell? (ad.add j)=some u:=by
    rcases h with e|⟨b,off,e,_,hc⟩
    ·subst e;intro j u hj;simp[ay] at hj
    ·cases e;exact tX hc
   obtain⟨v',w',hrun,h2,h3,_,h5⟩:=run_append_own_at (P:=prog) w base 52 ty 3 i0 _ 1 8 underlying52 hi hz0 hz1 hz2 rfl (by decide) v _ _ hown ad l.length cap (ay l) (by simp[ay]) hnews (uL l) (by unfold maxLen;omega) (by omega) hb;refine⟨v',w',hrun,by rw[List.length_append,yv];exact h2,(Below.refl base w).grown h3 hb (fun q e=>?_)⟩
   rcases hown.2 with ⟨e1,_⟩|⟨g1,cp',cu,e1,hge,hh,_⟩
   ·rw[e1] at e;simp[Value.ownBlock] at e
   ·rw[e1] at e
    simp only[Value.ownBlock,Option.some.injEq] at e;omega
theorem wP (w:World) (n:Nat) (hn:n≤200000):Calls prog 229 #[.slice none 0 0,.int .i64 (n:Int)] w fun e w'=>∃v,e=.returned v∧w'.ownsRow w.heap.size 3 1 v 0 []∧Below w.heap.size w w':=by
 by_cases h0:n=0
 ·subst h0
  have h1:¬(((0:Nat):Int)<0):=by omega
  go_enter func229,ntmps229;go_wp2_with fail;go_ret;exact⟨_,rfl,World.ownsRow_nil _ _ _ _,Below.refl _ _⟩
 ·obtain⟨i0,hi,hz0,hz1,hz2⟩:=info_parts wJ
  have hrz:∀ty,∃G C,(Builtin.append_ #[52,3] ty #[.slice none 0 0,.int .i64 (n:Int)]).run prog w=.ok (.slice (some ⟨w.heap.size,0,none⟩) n G) (w.drew.alloc (.cells C 3))∧n≤G∧G≤maxLen∧C.size=G*1:=by
   intro ty
   have h:=Lib.run_append_grow_zeros w 52 3 ty 3 i0 _ .i64 .i64 underlying52 underlying3 hi hz0 none 0 0 [] (run_firstCells_none w.drew i0.size 0 0 0) n (by omega) (by omega) (by omega) (by omega) (by rw[hz2];omega)
    (by rw[Nat.zero_add];exact growslice_fits (by omega) (by rw[hz2];omega))
   rw[Nat.zero_add] at h
   exact⟨_,_,h,grownCap_ge _ _ _ _,grownCap_le_maxLen _ _ _ _ (by unfold maxLen;omega),by
    have:=grownCap_ge w n 0 3;simp only[Array.size_append,size_zeroCells,Value.cells];simp
    omega⟩
  obtain⟨G,C,hrun,hG1,hG2,hCs⟩:=hrz 52
  have n0:¬((n:Int)<0):=by omega
  have n1:((n:Int)>0):=by omega
  have HRUN:=aa hrun
  have g63:G≤9223372036854775807:=by unfold maxLen at hG2;omega
  clear hrun hrz;go_enter func229,ntmps229;go_wp2_with (at_builtin;refine nZ rfl (s:=.tmp 20) (x:=.tmp 21) (t:=52) (u:=3) rfl rfl rfl HRUN.out ?_);go_ret;refine⟨_,rfl,⟨rfl,.inr ⟨w.heap.size,G,C,rfl,Nat.le_refl _,heap_alloc_new w.drew _,Nat.zero_le _,hG2,hCs,by simp⟩⟩,(Below.refl _ _).drew.alloc (Nat.le_refl _) _⟩
theorem pd (w:World) (base:Nat) (v:Value) (xs:List Bd) (hown:w.ownsRow base 65 4 v xs.length (bh xs)) (a:Option Addr) (cap:Nat) (l:List Bd) (h:BoundsAt w a l) (hx:xs.length≤100000) (hl:l.length≤100000) (hb:base≤w.heap.size) (ty:TypeId) :
 ∃v' w',(Builtin.append_ #[59,59] ty #[v,.slice a l.length cap]).run prog w=.ok v' w'∧w'.ownsRow base 65 4 v' (xs++l).length (bh (xs++l))∧Below base w w':=by
 obtain⟨i0,hi,hz0,hz1,hz2⟩:=info_parts lR
 cases a with
 | none =>
   have hl0:l=[]:=by rcases h with e|⟨b,off,e,_⟩;exact e;cases e
   subst hl0;exact⟨v,w,iT w base 59 ty 65 i0 4 underlying59 hi v _ _ hown cap,by simpa using hown,Below.refl _ _⟩
 | some ad =>
   have hnews:∀j u,(bh l)[j]?=some u→w.cell? (ad.add j)=some u:=by
    rcases h with e|⟨b,off,e,_,hc⟩
    ·subst e;intro j u hj;simp[bh] at hj
    ·cases e;exact jv hc
   obtain⟨v',w',hrun,h2,h3,_,h5⟩:=run_append_own_at (P:=prog) w base 59 ty 65 i0 _ 4 32 underlying59 hi hz0 hz1 hz2 rfl (by decide) v _ _ hown ad l.length cap (bh l) (by simp[cU]) hnews (uf l) (by unfold maxLen;omega) (by omega) hb;refine⟨v',w',hrun,by rw[List.length_append,zq];exact h2,(Below.refl base w).grown h3 hb (fun q e=>?_)⟩
   rcases hown.2 with ⟨e1,_⟩|⟨g1,cp',cu,e1,hge,hh,_⟩
   ·rw[e1] at e;simp[Value.ownBlock] at e
   ·rw[e1] at e
    simp only[Value.ownBlock,Option.some.injEq] at e;omega
theorem kC {a b:List Int} {k:Nat} (ha:k<a.length) (hb:k<b.length) (h:a.take k=b.take k) (e:a[k]=b[k]):a.take (k+1)=b.take (k+1):=by
 rw[List.take_succ_eq_append_getElem ha,List.take_succ_eq_append_getElem hb,h,e]
theorem ry (w:World) (a0:Option Addr) (c0:Nat) (l0:List Int) (a1:Option Addr) (c1:Nat) (l1:List Int) (h0:IntsAt w a0 l0) (h1:IntsAt w a1 l1) (_hl0:l0.length≤9223372036854775807) (hl1:l1.length≤9223372036854775807) :
 Calls prog 100 #[.slice a0 l0.length c0,.slice a1 l1.length c1] w fun e w'=>e=.returned (.bool (decide (l0=l1)))∧Below w.heap.size w w':=by
 have H0:=aa h0;have H1:=aa h1;clear h0 h1
 by_cases hlen:l0.length=l1.length
 ·have hne:((l0.length:Int) != (l1.length:Int))=false:=by simp;omega
  have hle:l0.length≤l1.length:=by omega
  have HLEN:=aa hlen;clear hlen;go_enter func100,ntmps100;go_wp2_with fail
  go_loopw [5] (fun i wr=>∃k:Nat,k≤l0.length∧i=.int .i64 k∧Hid (l0.take k=l1.take k)∧Hid (Below w.heap.size w wr)) (fun i _=>l0.length-(intOf i).toNat)
  case atStart=>exact⟨0,Nat.zero_le _,rfl,aa rfl,aa (Below.refl _ _)⟩
  case round =>
   obtain⟨k,hk,rfl,heq,hb⟩:=hrel
   by_cases hlt:k<l0.length
   ·have hlt1:k<l1.length:=by omega
    obtain⟨b0,o0,rfl,hb0,d0⟩:=H0.out.at hlt;obtain⟨b1,o1,rfl,hb1,d1⟩:=H1.out.at hlt1;have d0':=(hb.out.cell (by exact hb0)).trans d0;have d1':=(hb.out.cell (by exact hb1)).trans d1;obtain⟨x,hx⟩:=ag (l0[k]);obtain⟨y,hy⟩:=ag (l1[k]);rw[hx] at d0';rw[hy] at d1';have HX:=aa hx;have HY:=aa hy
    have k0:(0:Int)≤(k:Int):=by omega
    have k1:(k:Int)<(l0.length:Int):=by omega
    have k2:(k:Int)<(l1.length:Int):=by omega
    clear d0 d1 hx hy
    by_cases hxy:x=y
    ·subst hxy
     go_wp2_with fail
     go_quiet (fail)
     go_wp2_with fail;go_roundw
     case rel=>exact⟨k+1,by omega,by go_num,aa (kC hlt hlt1 heq.out (by rw[HX.out,HY.out])),aa (hb.out.trans (aA _ _))⟩
     case measure=>simp[intOf];omega
    ·have hne2:(x != y)=true:=by simpa using hxy
     have hxx:=aa hxy;clear hxy;go_wp2_with fail
     go_quiet (fail)
     go_wp2_with fail;go_ret;refine⟨?_,hb.out.trans (aA _ _)⟩
     have:¬l0=l1:=fun e=>hxx.out (by rw[←HX.out,←HY.out];subst e;rfl)
     simp[this]
   ·go_wp2_with fail
    go_ret;refine⟨?_,hb.out⟩;have h2:=heq.out;rw[List.take_of_length_le (by omega),List.take_of_length_le (by have:=HLEN.out;omega)] at h2;simp[h2]
 ·have hne:((l0.length:Int) != (l1.length:Int))=true:=by simp;omega
  have hd:decide (l0=l1)=false:=by
   simp only[decide_eq_false_iff_not]
   intro e;exact hlen (by rw[e])
  have HD:=aa hd;clear hlen hd;go_enter func100,ntmps100;go_wp2_with fail;go_ret;exact⟨by rw[HD.out];rfl,Below.refl _ _⟩
theorem oT {a b:List Bool} {k:Nat} (ha:k<a.length) (hb:k<b.length) (h:a.take k=b.take k) (e:a[k]=b[k]):a.take (k+1)=b.take (k+1):=by
 rw[List.take_succ_eq_append_getElem ha,List.take_succ_eq_append_getElem hb,h,e]
theorem BoolsAt.get {w:World} {a:Option Addr} {xs:List Bool} (h:BoolsAt w a xs) {k:Nat} (hk:k<xs.length):∃b off,a=some ⟨b,off,none⟩∧b<w.heap.size∧w.cell? ⟨b,off+k,none⟩=some (.bool xs[k]):=by
 rcases h with h|⟨b,off,e,hl,hc⟩
 ·subst h;simp at hk
 ·exact⟨b,off,e,hl,hc k hk⟩
end Go.Proofs.YtkhemfnlflbniaaGreatDoor
namespace Go.Proofs.YtkhemfnlflbniaaGreatDoor
structure Sta where
 name:ByteArray
 x:Int
structure Par where
 name:ByteArray
 south:Int
 wst:Int
 est:Int
structure Vrn where
 year:Int
 east:Int
structure Fld where
 sts:List Sta
 lms:List ByteArray
 prs:List Par
 vrs:List Vrn
def iU (c:UInt8):Bool:=decide (97≤c.toNat)&&decide (c.toNat≤122)
def dG (c:UInt8):Bool:=iU c||(decide (48≤c.toNat)&&decide (c.toNat≤57))||c.toNat==45
def bI (s:ByteArray):Bool:=decide (1≤s.size)&&decide (s.size≤24)&&iU (s.data.toList.getD 0 0)&&s.data.toList.all dG
def kS:Int→List Vrn→Bool
 | _,[]=>true
 | y,v::l=>bm v.year (y+1) 3000&&bm v.east (-60) 60&&kS v.year l
def bz (l:List Vrn):Int:=if 40<l.length then 2 else if kS 0 l then 0 else 1
def cG (l:List ByteArray) (k:Nat):Bool:=(List.range k).any fun i=>(l.take i).any fun y=>decide (y=l.getD i default)
def nG (p q:Par):Bool:=p.south==q.south&&decide (0<min p.est q.est-max p.wst q.wst)
def cH (nL nS:Nat) (p:Par):Bool:=bm p.south 0 ((nL:Int)-2)&&bm p.wst 0 ((nS:Int)-1)&&bm p.est 0 ((nS:Int)-1)
def js:Sta:=⟨ByteArray.empty,0⟩
def r8:Par:=⟨ByteArray.empty,0,0,0⟩
def eQ (l:List Sta) (k:Nat):Bool:=(List.range k).all fun i=>i==0||decide ((l.getD (i-1) js).x<(l.getD i js).x)
def eV (l:List Par) (k:Nat):Bool:=(List.range k).all fun i=>decide ((l.getD i r8).wst<(l.getD i r8).est)&&!(l.take i).any (nG (l.getD i r8))
def Fld.names (F:Fld):List (List ByteArray):=[F.sts.map Sta.name,F.lms,F.prs.map Par.name]
def Fld.check (F:Fld):Int :=
 if 12<F.sts.length∨10<F.lms.length∨40<F.prs.length then 2
 else if F.sts.length<2∨F.lms.length<1 then 5
 else if bz F.vrs≠0 then bz F.vrs
 else if F.names.any (fun l=>l.any fun s=>!bI s) then 4
 else if F.names.any (fun l=>cG l l.length) then 6
 else if F.sts.any (fun s=>!bm s.x 0 100000) then 1
 else if F.prs.any (fun p=>!cH F.lms.length F.sts.length p) then 1
 else if eQ F.sts F.sts.length=false then 30
 else if eV F.prs F.prs.length=false then 30
 else 0
end Go.Proofs.YtkhemfnlflbniaaGreatDoor
namespace Go.Proofs.YtkhemfnlflbniaaGreatDoor
open Go Go.RowKit Go.Shelf
theorem uR {W:World} {g:Nat} {b:Bd} (h:W.heap[g]?=some (.cells #[.int .i64 b.src,.int .i64 b.dst,.int .i64 b.most,.int .i64 b.rcd] 65 (0,0))):BoundsAt W (some ⟨g,0,none⟩) [b] :=
 .inr ⟨_,_,rfl,lt_of_block h,fun i hi=>by
  match i,hi with
  | 0,_=>exact⟨by rw[cell_of_row _ _ _ _ _ _ h];rfl,by rw[cell_of_row _ _ _ _ _ _ h];rfl,by rw[cell_of_row _ _ _ _ _ _ h];rfl,by rw[cell_of_row _ _ _ _ _ _ h];rfl⟩⟩
end Go.Proofs.YtkhemfnlflbniaaGreatDoor
namespace Go.Proofs.YtkhemfnlflbniaaGreatDoor
def dU (bs:List Bd) (R many a:Nat):Int:=bk (fun r:List Int=>decide (r.getD a 0<0)) (aK bs a (min many R))
def tV (bs:List Bd) (R:Nat) (st:Nat×List Bool) (a:Nat):Nat×List Bool :=
 if dU bs R st.1 a<0 then st
 else if(dU bs R st.1 a).toNat<st.1 then((dU bs R st.1 a).toNat,(List.replicate R false).set a true) else(st.1,st.2.set a true)
def bN (bs:List Bd) (R k:Nat):Nat×List Bool:=(List.range k).foldl (tV bs R) (R+1,List.replicate R false)
def bG (i k:Nat):Bool:=decide (i<k)
def dT (bs:List Bd) (many i:Nat):List (List Int):=aK (bL bs (aq (bG i) bs.length)) (bs.getD i cn).src.toNat (many-1)
def qd (bs:List Bd) (many i:Nat):Int:=((dT bs many i).getD (many-1) []).getD (bs.getD i cn).dst.toNat 0
def cM (bs:List Bd) (st:Nat×List Bool) (i:Nat):Bool :=
 st.2.getD (bs.getD i cn).src.toNat false&&st.2.getD (bs.getD i cn).dst.toNat false&&(decide (qd bs st.1 i<1125899906842624)&&decide ((bs.getD i cn).most+qd bs st.1 i<0))
def dt (rows:List (List Int)) (m left at_ sum:Int):Bool :=
 decide (az (rows.getD left.toNat []) at_<1125899906842624)&&decide (m+sum+az (rows.getD left.toNat []) at_<0)
def g7 (bs:List Bd) (many i:Nat):List Int :=
 cj bs (aq (bG i) bs.length) (dt (dT bs many i) (bs.getD i cn).most) (bs.getD i cn).dst (many-1)
def i6 (bs:List Bd) (R:Nat):Option (List Int) :=
 match (List.range bs.length).find? (cM bs (bN bs R R)) with
 | none=>none
 | some i=>some ((i:Int)::g7 bs (bN bs R R).1 i)
def bS (N:Int) (bs:List Bd):List Int×Bool×Int :=
 if aO N bs≠0 then([],false,aO N bs)
 else if(aG N bs).isSome=true then([],false,0)
 else match i6 bs N.toNat with|none=>([],false,0)|some l=>(l,true,0)
theorem jX (bs:List Bd) (R k:Nat):bN bs R (k+1)=tV bs R (bN bs R k) k:=by
 unfold bN;rw[List.range_succ,List.foldl_append];rfl
theorem tR {α:Type} {p:α→Bool}:∀(l:List α),bk p l<l.length
 | []=>by simp[bk]
 | x::l=>by
   have:=tR (p:=p) l;simp only[bk,List.length_cons]
   split
   ·omega
   ·split<;>omega
theorem lV {α:Type} {p:α→Bool} {d:α}:∀(l:List α),0≤bk p l→p (l.getD (bk p l).toNat d)=true
 | [],h=>by simp[bk] at h
 | x::l,h=>by
   simp only[bk] at h ⊢
   by_cases hx:p x=true
   ·simp[hx]
   ·rw[if_neg hx] at h ⊢
    by_cases h2:bk p l<0
    ·rw[if_pos h2] at h;omega
    ·rw[if_neg h2]
     rw[if_neg h2] at h
     have h3:0≤bk p l:=by omega
     have:=lV (d:=d) l h3;rw[show(bk p l+1).toNat=(bk p l).toNat+1 by omega];simpa using this
theorem sk (bs:List Bd) (R many a:Nat):dU bs R many a≤min many R:=by
 have:=tR (p:=fun r:List Int=>decide (r.getD a 0<0)) (aK bs a (min many R));rw[ct] at this
 unfold dU;omega
theorem x8 {bs:List Bd} {R many a:Nat} (ha:a<128) (h:0≤dU bs R many a):1≤dU bs R many a:=by
 have h1:=lV (d:=[]) (p:=fun r:List Int=>decide (r.getD a 0<0)) (aK bs a (min many R)) h;have h2:bk (fun r:List Int=>decide (r.getD a 0<0)) (aK bs a (min many R))=dU bs R many a:=rfl;rw[h2] at h1
 by_cases e:dU bs R many a=0
 ·rw[e] at h1
  rw[show(0:Int).toNat=0 from rfl,bP _ _ _ (Nat.zero_le _)] at h1;have h3:=of_decide_eq_true h1;unfold aI at h3;rw[cq,if_pos ⟨rfl,by simpa using ha⟩] at h3;omega
 ·omega
theorem oC (bs:List Bd) (R:Nat):∀k,k≤R→R≤128→1≤(bN bs R k).1∧(bN bs R k).1≤R+1∧(bN bs R k).2.length=R
 | 0,_,_=>by simp[bN]
 | k+1,hk,hR=>by
   obtain⟨h1,h2,h3⟩:=oC bs R k (by omega) hR;rw[jX];unfold tV
   split
   ·exact⟨h1,h2,h3⟩
   ·rename_i hn
    have:=x8 (bs:=bs) (R:=R) (many:=(bN bs R k).1) (a:=k) (by omega) (by omega)
    split
    ·exact⟨by simp only;omega,by simp only;omega,by simp⟩
    ·exact⟨h1,h2,by simp[h3]⟩
theorem iE {p:Nat→Bool} {n:Nat} (h:∀i,i<n→p i=false):(List.range n).find? p=none :=
 List.find?_eq_none.2 fun i hi=>by rw[h i (List.mem_range.1 hi)];simp
theorem iG {p:Nat→Bool} {n i:Nat} (hi:i<n) (h:∀k,k<i→p k=false) (hp:p i=true):(List.range n).find? p=some i:=by
 induction n with
 | zero=>omega
 | succ n ih =>
   rw[List.range_succ,List.find?_append]
   by_cases e:i=n
   ·subst e
    rw[iE h];simp[hp]
   ·rw[ih (by omega)];rfl
end Go.Proofs.YtkhemfnlflbniaaGreatDoor
namespace Go.Proofs.YtkhemfnlflbniaaGreatDoor
open Go Go.RowKit Go.Shelf Tryz
theorem pP (w:World) (k i b1:Nat) (c1:w.cell? ⟨b1,0,none⟩=some (.int .i64 (i:Int))) :
 Calls prog 153 #[.int .i64 (k:Int),.pointer (some ⟨b1,0,none⟩)] w fun e w'=>e=.returned (.bool (bG i k))∧w=w':=by
 by_cases h:i<k
 ·have hr:bG i k=true:=by unfold bG;simpa using h
  have hd:decide ((k:Int)>(i:Int))=true:=by simp;omega
  have HR:=aa hr;clear hr;go_enter func153,ntmps153;go_wp2_with fail;go_ret;exact⟨by rw[HR.out];rfl,rfl⟩
 ·have hr:bG i k=false:=by unfold bG;simpa using h
  have hd:decide ((k:Int)>(i:Int))=false:=by simp;omega
  have HR:=aa hr;clear hr;go_enter func153,ntmps153;go_wp2_with fail;go_ret;exact⟨by rw[HR.out];rfl,rfl⟩
theorem wW (w:World) (g cap n:Nat) (rows:List (List Int)) (m:Int) (b3 b4 left at_:Nat) (sum _s0 _s1 _s3:Int) (hn:rows.length=n) (_hn2:n≤200) (h:RowsAt w g rows) (hl:left<n) (ha:at_<128) (hs1:-400000000≤sum) (hs2:sum≤400000000) (hm1:-1000000≤m) (hm2:m≤1000000)
 (hv:-1000000000≤(rows.getD left []).getD at_ 0∧(rows.getD left []).getD at_ 0≤1125899906842624)
 (c3:w.cell? ⟨b3,0,none⟩=some (.slice (some ⟨g,0,none⟩) n cap)) (c4:w.cell? ⟨b4,2,none⟩=some (.int .i64 m)) :
 Calls prog 155 #[.int .i64 left,.int .i64 at_,.int .i64 sum,.pointer (some ⟨b3,0,none⟩),.pointer (some ⟨b4,0,none⟩)] w fun e w'=>e=.returned (.bool (dt rows m left at_ sum))∧Below w.heap.size w w':=by
 have c5:=h left at_ (by omega) ha;have HN:=aa hn;obtain⟨v,hvv⟩:=ag ((rows.getD left []).getD at_ 0);rw[hvv] at c5 hv
 have a128:(at_:Int)<128:=by omega
 have a0:(0:Int)≤(at_:Int):=by omega
 have l0:(0:Int)≤(left:Int):=by omega
 have l1:(left:Int)<(n:Int):=by omega
 obtain⟨hv1,hv2⟩:=hv;have hw1:IntKind.i64.wrap (m+sum)=m+sum:=IntWalk.i64_in _ (by omega);have hw:IntKind.i64.wrap (m+sum+v)=m+sum+v:=IntWalk.i64_in _ (by omega)
 by_cases hf:v<1125899906842624
 ·have hg:dt rows m left at_ sum=decide (m+sum+v<0):=by
   unfold dt az;simp only[Int.toNat_natCast]
   simp only[hvv];simp[hf]
  have HG:=aa hg;clear hvv hg hn h;go_enter func155,ntmps155;go_wp2_with fail
  go_quiet (fail)
  go_wp2_with fail;go_ret;exact⟨by rw[HG.out];rfl,aA _ _⟩
 ·have hg:dt rows m left at_ sum=false:=by
   unfold dt az;simp only[Int.toNat_natCast]
   simp only[hvv];simp[hf]
  have HG:=aa hg
  have hdec:decide (v<1125899906842624)=false:=by simpa using hf
  clear hvv hg hn h;go_enter func155,ntmps155;go_wp2_with fail
  go_quiet (fail)
  go_wp2_with fail;go_ret;exact⟨by rw[HG.out];rfl,aA _ _⟩
theorem jx {g:Nat} {t:TypeId}:∀(vs:List Value) (o:Nat) (W:World) (C:Array Value),W.heap[g]?=some (.cells C t (0,0))→o+vs.length≤C.size→∃C':Array Value,(W.setCells g o vs).heap[g]?=some (.cells C' t (0,0))∧C'.size=C.size∧(∀k,k<o→C'[k]?=C[k]?)∧(∀j,j<vs.length→C'[o+j]?=vs[j]?)∧∀k,o+vs.length≤k→C'[k]?=C[k]?
 | [],_,_,C,h,_=>⟨C,h,rfl,fun _ _=>rfl,fun j hj=>by simp at hj,fun _ _=>rfl⟩
 | v::vs,o,W,C,h,hs=>by
   simp only[List.length_cons] at hs;obtain⟨C',h1,h2,h3,h4,h5⟩:=jx vs (o+1) (W.setCell ⟨g,o,none⟩ v) (C.setIfInBounds o v) (heap_setCell_same _ _ _ _ _ _ h) (by rw[Array.size_setIfInBounds];omega);refine⟨C',h1,by rw[h2,Array.size_setIfInBounds],fun k hk=>?_,fun j hj=>?_,fun k hk=>?_⟩
   ·rw[h3 k (by omega),Array.getElem?_setIfInBounds,if_neg (by omega)]
   ·cases j with
    | zero=>rw[Nat.add_zero,h3 o (by omega),Array.getElem?_setIfInBounds,if_pos rfl,if_pos (by omega)];rfl
    | succ j =>
      rw[show o+(j+1)=o+1+j by omega,h4 j (by simpa using hj)];simp
   ·simp only[List.length_cons] at hk
    rw[h5 k (by omega),Array.getElem?_setIfInBounds,if_neg (by omega)]
theorem iM {g q:Nat} (hq:q≠g):∀(vs:List Value) (o:Nat) (W:World),(W.setCells g o vs).heap[q]?=W.heap[q]?
 | [],_,_=>rfl
 | v::vs,o,W=>(iM hq vs (o+1) (W.setCell ⟨g,o,none⟩ v)).trans (heap_setCell_other _ _ _ _ hq)
theorem mZ (w:World) (ty:TypeId) (b n c:Nat) (l:List Bool) (hb:w.heap[b]?=some (.cells (eM l) 4 (0,0))) (hl:l.length=n) (hn:0<n) :
 ∃w',(Builtin.clear_ #[184] ty #[.slice (some ⟨b,0,none⟩) n c]).run prog w=.ok (.tuple #[]) w'∧w'.heap[b]?=some (.cells (eM (List.replicate n false)) 4 (0,0))∧(∀q,q≠b→w'.heap[q]?=w.heap[q]?)∧Below b w w':=by
 have hz:∀w,(zeroValue 4).run prog w=.ok (.bool false) w:=zeroValue4
 have hsz:(Builtin.zeroCells (Value.bool false).cells n).toList.length=n:=by
  rw[Array.length_toList,size_zeroCells];simp[Value.cells]
 have hvs:(Builtin.zeroCells (Value.bool false).cells n).toList=List.replicate n (Value.bool false):=by
  apply List.ext_getElem
  ·rw[hsz];simp
  ·intro i h1 h2
   simp[Builtin.zeroCells,Value.cells,Nat.mod_one]
 have hone:∀v∈List.replicate n (Value.bool false),v.oneCell'=true:=by
  intro v hv
  rw[List.eq_of_mem_replicate hv];rfl
 have hst:=run_storeCells_cells (P:=prog) b 0 (List.replicate n (Value.bool false)) 0 w (by
  intro j hj;rw[List.length_replicate] at hj;simp only[Nat.zero_add]
  rw[cell_of_row _ _ _ _ _ _ hb,dN (by omega)];rfl) (by
  intro j hj
  exact frozen_of_row _ _ _ _ _ hb) hone
 simp only[Nat.add_zero] at hst;obtain⟨m,rfl⟩:∃m,n=m+1:=⟨n-1,by omega⟩;obtain⟨C',h1,h2,h3,h4,h5⟩:=jx (List.replicate (m+1) (Value.bool false)) 0 w _ hb (by rw[jK,List.length_replicate];omega);refine⟨w.setCells b 0 (List.replicate (m+1) (Value.bool false)),?_,?_,fun q hq=>?_,jd (Below.refl _ _) (Nat.le_refl _) _ _⟩
 ·simp[Builtin.clear_,run_underlying underlying184,hz,hvs,hst]
 ·rw[h1]
  have:C'=eM (List.replicate (m+1) false):=by
   apply Array.ext_getElem?
   intro i
   by_cases hi:i<m+1
   ·have:=h4 i (by simpa using hi)
    rw[Nat.zero_add] at this;rw[this,dN (by simpa using hi)];simp[hi,List.getD_eq_getElem?_getD]
   ·rw[Array.getElem?_eq_none (by rw[h2,jK];omega),Array.getElem?_eq_none (by rw[jK];simp;omega)]
  rw[this]
 ·exact iM hq _ _ _
theorem fU {W:World} {base:Nat} {v:Value} {l:List Int} (h:W.ownsRow base 3 1 v l.length (ay l)):∃o cap,v=.slice o l.length cap∧IntsAt W o l∧jq o l.length cap:=by
 rcases h.2 with ⟨e,h0⟩|⟨gb,cp,cur,e,_,hh,hn,_,hsz,htk⟩
 ·exact⟨none,0,by rw[e,h0],.inl (List.length_eq_zero_iff.1 h0),fun _=>⟨h0,rfl⟩⟩
 ·refine⟨_,_,e,.inr ⟨gb,0,rfl,lt_of_block hh,fun i hi=>?_⟩,fun e=>by cases e⟩
  rw[cell_of_row _ _ _ _ _ _ hh,Nat.zero_add]
  have hlt:i<l.length*1:=by omega
  have h2:(cur.toList.take (l.length*1))[i]?=(ay l)[i]?:=by rw[htk]
  rw[List.getElem?_take_of_lt hlt] at h2;rw[←Array.getElem?_toList,h2];simp[ay,hi]
theorem rZ (w:World) (b cb:Nat) (a0:Option Addr) (c0:Nat) (l0:List Int) (a1:Option Addr) (c1:Nat) (l1:List Int) (h0:IntsAt w a0 l0) (h1:IntsAt w a1 l1) (hl0:l0.length≤50000) (hl1:l1.length≤50000)
 (hc:w.heap[b]?=some (.cells #[.slice a0 l0.length c0,.slice a1 l1.length c1] 52 (0,0))) :
 Calls prog 156 #[.slice (some ⟨b,0,none⟩) 2 cb] w fun e w'=>∃v,e=.returned v∧w'.ownsRow w.heap.size 3 1 v (l0++l1).length (ay (l0++l1))∧Below w.heap.size w w':=by
 have d0:w.cell? ⟨b,0,none⟩=some (.slice a0 l0.length c0):=bu hc rfl;have d1:w.cell? ⟨b,1,none⟩=some (.slice a1 l1.length c1):=bu hc rfl;have hb:=lt_of_block hc;have H0:=aa h0;have H1:=aa h1;have HC:=aa hc;clear h0 h1 hc;go_enter func156,ntmps156;go_wp2_with fail
 go_loop [3,11] (fun n i=>∃k:Nat,k≤2∧i=.int .i64 k∧n=.int .i64 ((if k=0 then 0 else if k=1 then l0.length else l0.length+l1.length:Nat):Int)) (fun _ i=>2-(intOf i).toNat)
 case atStart=>exact⟨0,by omega,rfl,rfl⟩
 case round =>
  obtain⟨k,hk,rfl,rfl⟩:=hrel
  have hk3:k=0∨k=1∨k=2:=by omega
  rcases hk3 with rfl|rfl|rfl
  ·have n0:¬((0:Int)+(l0.length:Int)<0):=by omega
   have n0':¬((l0.length:Int)<0):=by omega
   go_wp2_with fail;go_round
   case rel=>exact⟨1,by omega,rfl,by simp⟩
   case measure=>simp[intOf]
  ·have n0:¬((l0.length:Int)+(l1.length:Int)<0):=by omega
   go_wp2_with fail;go_round
   case rel=>exact⟨2,by omega,rfl,by simp⟩
   case measure=>simp[intOf]
  ·have hg:=wP w (l0.length+l1.length) (by omega)
   have HG:=aa hg;clear hg;go_wp2_with fail;refine HG.out.mono ?_;rintro e w1 ⟨v1,rfl,ho,hb1⟩;have HO:=aa ho;have HB:=aa hb1;clear ho hb1;go_wp2_with fail
   go_loopw [6,27] (fun v i wr=>∃k:Nat,k≤2∧i=.int .i64 k∧Hid (wr.ownsRow w.heap.size 3 1 v (if k=0 then[] else if k=1 then l0 else l0++l1).length (ay (if k=0 then[] else if k=1 then l0 else l0++l1)))∧Below w.heap.size w wr) (fun _ i _=>2-(intOf i).toNat)
   case atStart=>exact⟨0,by omega,rfl,HO,HB.out⟩
   case round =>
    obtain⟨k,hk,rfl,hown,hbl⟩:=hrel
    have hk3:k=0∨k=1∨k=2:=by omega
    rcases hk3 with rfl|rfl|rfl
    ·have g0:wr.cell? ⟨b,0,none⟩=some (.slice a0 l0.length c0):=(hbl.cell (by exact hb)).trans d0
     obtain⟨v',wa,hrun,ho',hb'⟩:=mH wr w.heap.size u6 [] (by simpa using hown.out) a0 c0 l0 (H0.out.below hbl (Nat.le_refl _)) (by simp) (by omega) hbl.size 52;have HR:=aa hrun;have HO':=aa ho';have HB':=aa (hbl.trans hb');clear hrun ho' hb';go_wp2_with (at_builtin;refine aN rfl (s:=.tmp 31) (x:=.tmp 32) (t:=52) rfl rfl rfl HR.out ?_);go_roundw
     case rel=>exact⟨1,by omega,rfl,aa (by simpa using HO'.out),HB'.out⟩
     case measure=>simp[intOf]
    ·have g0:wr.cell? ⟨b,1,none⟩=some (.slice a1 l1.length c1):=(hbl.cell (by exact hb)).trans d1
     obtain⟨v',wa,hrun,ho',hb'⟩:=mH wr w.heap.size u6 l0 (by simpa using hown.out) a1 c1 l1 (H1.out.below hbl (Nat.le_refl _)) (by omega) (by omega) hbl.size 52;have HR:=aa hrun;have HO':=aa ho';have HB':=aa (hbl.trans hb');clear hrun ho' hb';go_wp2_with (at_builtin;refine aN rfl (s:=.tmp 31) (x:=.tmp 32) (t:=52) rfl rfl rfl HR.out ?_);go_roundw
     case rel=>exact⟨2,by omega,rfl,aa (by simpa using HO'.out),HB'.out⟩
     case measure=>simp[intOf]
    ·go_wp2_with fail
     go_ret;exact⟨_,rfl,by simpa using hown.out,hbl⟩
def fj (l:List Int) (ok:Bool) (err:Int) (base:Nat) (e:Ending) (w':World):Prop:=∃v,e=.returned (.tuple #[v,.bool ok,.int .i64 err])∧w'.ownsRow base 3 1 v l.length (ay l)
end Go.Proofs.YtkhemfnlflbniaaGreatDoor
namespace Go.Proofs.YtkhemfnlflbniaaGreatDoor
theorem Over.cons {bs q:List Bd} {x:Bd} (h:x∈bs) (o:Over bs q):Over bs (x::q):=fun y hy=>(List.mem_cons.1 hy).elim (fun e=>e▸h) (o y)
theorem Walk.snoc {a b:Int} {p:List Bd} (h:Walk a b p) (x:Bd) (e:x.src=b):Walk a x.dst (p++[x]):=h.trans ⟨e,rfl⟩
theorem Walk.more {a b c:Int} {p q:List Bd} (h:Walk a b p) (x:Bd) (e:x.src=b) (k:Walk x.dst c q):Walk a c (p++x::q):=h.trans ⟨e,k⟩
def mB (N:Int) (bs:List Bd):Bool:=(aG N bs).isSome
theorem eu {N:Nat} {bs:List Bd} {t:List Int} (H:NetOk N bs t) (ht:aG N bs=some t) {a b:Nat} (ha:a<N) (hb:b<N) :
 (aF N bs a b<aC∧j7 bs a b (aF N bs a b))∨(aF N bs a b=aC∧zo bs a b):=by
 have h2:=(H.row ha).2 b hb;unfold aF;rw[eB ht];exact h2
theorem wY {N:Nat} {bs:List Bd} (hN:N≤128) (hv:au N bs):mB N bs=true↔i7 bs:=mg hN hv
theorem mr {N:Int} {bs:List Bd} (h:aO N bs=0):∃R:Nat,N=R∧1≤R∧R≤128∧bs.length≤2000∧au R bs:=by
 obtain⟨n0,n1,n2,nv⟩:=cR h;obtain⟨R,rfl⟩:=Int.eq_ofNat_of_zero_le (show 0≤N by omega);exact⟨R,rfl,by omega,by omega,n2,fun b hb=>(nv b hb).1⟩
end Go.Proofs.YtkhemfnlflbniaaGreatDoor
