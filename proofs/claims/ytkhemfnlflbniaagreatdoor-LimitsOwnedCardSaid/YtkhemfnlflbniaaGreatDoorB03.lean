/- Merged text 3 of the base: PlE, PureG, Wm, Wi, Wj, Wi2, Wi3. No conditions beyond those stated. -/
import Derived.Test.YtkhemfnlflbniaaGreatDoorB02
import Derived.Test.YtkhemfnlflbniaaGreatDoorB01
import Derived.StillTailTactics
import Derived.Great.Walk
import Derived.Great.BuildSlice
import Derived.Deep.LoopGhost
import Derived.Deep.WholeRow
set_option maxRecDepth 100000
set_option maxHeartbeats 2000000
namespace Go.Proofs.YtkhemfnlflbniaaGreatDoor
def Cb (l:List Bd) (a b:Int) (k:Nat) (d:Int):Prop:=(∃p,Walk a b p∧Over l p∧p.length=k∧aU p=d)∧∀p,Walk a b p→Over l p→p.length=k→d≤aU p
def Ce (l:List Bd) (a b:Int) (k:Nat):Prop:=∀p,Walk a b p→Over l p→p.length≠k
def A4 (N:Nat) (l:List Bd) (tow k:Nat) (r:List Int):Prop:=∀v:Nat,v<N→(r.getD v 0<aC∧Cb l v tow k (r.getD v 0))∨(r.getD v 0=aC∧Ce l v tow k)
theorem fq {v:Nat} (h:v<128):(List.replicate 128 aC).getD v 0=aC:=by
 simp only[List.getD_eq_getElem?_getD,List.getElem?_replicate]
 rw[if_pos h];rfl
def Ag (N:Nat) (cur:List Int) (pre:List Bd) (nx:List Int):Prop:=nx.length=128∧∀v:Nat,v<N →
 (nx.getD v 0<aC∧(∃b∈pre,b.src=v∧az cur b.dst<aC∧nx.getD v 0=az cur b.dst+b.most)∧∀b∈pre,b.src=v→az cur b.dst<aC→nx.getD v 0≤az cur b.dst+b.most) ∨
 (nx.getD v 0=aC∧∀b∈pre,b.src=v→¬az cur b.dst<aC)
theorem xM {N c:Nat} {cur nx:List Int} {pre:List Bd} {b:Bd} (hN:N≤128) (hc:c≤128) (hb:b.valid N) (hk:dw c cur) (H:Ag N cur pre nx):Ag N cur (pre++[b]) (ew cur nx b):=by
 obtain⟨v1,v2,v3,v4,v5,v6⟩:=hb;obtain⟨hl,H⟩:=H;unfold ew
 split
 ·rename_i hlt
  have hcur:=hk.2 b.dst.toNat
  have hbig:az cur b.dst+b.most<aC:=by
   unfold az at *
   unfold aC at *
   omega
  refine⟨by rw[List.length_set];exact hl,fun v hv=>?_⟩;rw[cq]
  by_cases e:v=b.src.toNat
  ·subst e
   rw[if_pos ⟨rfl,by omega⟩]
   left
   have hsrc:((b.src.toNat:Nat):Int)=b.src:=Int.toNat_of_nonneg v1;have hx:az nx b.src=nx.getD b.src.toNat 0:=rfl;rw[hx]
   rcases H b.src.toNat hv with ⟨h1,⟨x,x1,x2,x3,x4⟩,h3⟩|⟨h1,h2⟩
   ·by_cases hm:nx.getD b.src.toNat 0≤az cur b.dst+b.most
    ·rw[Int.min_eq_left hm]
     refine⟨h1,⟨x,by simp[x1],x2,x3,x4⟩,fun y hy ey ly=>?_⟩
     rcases List.mem_append.1 hy with hy|hy
     ·exact h3 y hy ey ly
     ·rw[List.mem_singleton.1 hy];exact hm
    ·rw[Int.min_eq_right (by omega)]
     refine⟨hbig,⟨b,by simp,hsrc.symm,hlt,rfl⟩,fun y hy ey ly=>?_⟩
     rcases List.mem_append.1 hy with hy|hy
     ·have:=h3 y hy ey ly;omega
     ·rw[List.mem_singleton.1 hy];exact Int.le_refl _
   ·rw[h1,Int.min_eq_right (by omega)]
    refine⟨hbig,⟨b,by simp,hsrc.symm,hlt,rfl⟩,fun y hy ey ly=>?_⟩
    rcases List.mem_append.1 hy with hy|hy
    ·exact absurd ly (h2 y hy ey)
    ·rw[List.mem_singleton.1 hy];exact Int.le_refl _
  ·rw[if_neg (fun x=>e x.1)]
   have hne:∀y∈pre++[b],y.src=v→y∈pre:=by
    intro y hy ey
    rcases List.mem_append.1 hy with hy|hy
    ·exact hy
    ·rw[List.mem_singleton.1 hy] at ey;omega
   rcases H v hv with ⟨h1,⟨x,x1,x2,x3,x4⟩,h3⟩|⟨h1,h2⟩
   ·exact .inl ⟨h1,⟨x,by simp[x1],x2,x3,x4⟩,fun y hy ey ly=>h3 y (hne y hy ey) ey ly⟩
   ·exact .inr ⟨h1,fun y hy ey=>h2 y (hne y hy ey) ey⟩
 ·rename_i hlt
  refine⟨hl,fun v hv=>?_⟩
  rcases H v hv with ⟨h1,⟨x,x1,x2,x3,x4⟩,h3⟩|⟨h1,h2⟩
  ·refine .inl ⟨h1,⟨x,by simp[x1],x2,x3,x4⟩,fun y hy ey ly=>?_⟩
   rcases List.mem_append.1 hy with hy|hy
   ·exact h3 y hy ey ly
   ·rw[List.mem_singleton.1 hy] at ly;exact absurd ly hlt
  ·refine .inr ⟨h1,fun y hy ey=>?_⟩
   rcases List.mem_append.1 hy with hy|hy
   ·exact h2 y hy ey
   ·rw[List.mem_singleton.1 hy];exact hlt
theorem pS {N c:Nat} {cur:List Int} (hN:N≤128) (hc:c≤128) (hk:dw c cur):∀(cs pre:List Bd) (nx:List Int),au N cs→Ag N cur pre nx→Ag N cur (pre++cs) (cs.foldl (ew cur) nx)
 | [],pre,nx,_,H=>by simpa using H
 | b::cs,pre,nx,hv,H=>by
   have:=pS hN hc hk cs (pre++[b]) _ (fun x hx=>hv x (List.mem_cons_of_mem _ hx)) (xM hN hc (hv b (List.mem_cons_self ..)) hk H);simpa [List.append_assoc] using this
theorem xW {N:Nat} {l:List Bd} {tow k:Nat} {cur:List Int} (hN:N≤128) (hv:au N l) (hk1:k≤128) (hok:dw k cur) (H:A4 N l tow k cur):A4 N l tow (k+1) (wu l cur):=by
 obtain⟨_,E⟩:=pS hN hk1 hok l [] (List.replicate 128 aC) hv ⟨by simp,fun v hvN=>.inr ⟨fq (by omega),fun b hb=>by cases hb⟩⟩;rw[List.nil_append] at E;intro v hvN
 show((l.foldl (ew cur) (List.replicate 128 aC)).getD v 0<aC∧_)∨_
 have look:∀b∈l,(az cur b.dst<aC∧Cb l b.dst tow k (az cur b.dst))∨(az cur b.dst=aC∧Ce l b.dst tow k):=by
  intro b hb;obtain⟨v1,v2,v3,v4,_⟩:=hv b hb;have:=H b.dst.toNat (by omega);rw[Int.toNat_of_nonneg v3] at this;exact this
 rcases E v hvN with ⟨h1,⟨b,b1,b2,b3,b4⟩,h3⟩|⟨h1,h2⟩
 ·left
  refine⟨h1,?_,fun p hw ho hl=>?_⟩
  ·rcases look b b1 with ⟨_,⟨p,p1,p2,p3,p4⟩,_⟩|⟨e,_⟩
   ·refine⟨b::p,⟨b2,p1⟩,?_,by simp[p3],?_⟩
    ·intro x hx
     rcases List.mem_cons.1 hx with rfl|hx
     ·exact b1
     ·exact p2 x hx
    ·show b.most+aU p=(l.foldl (ew cur) (List.replicate 128 aC)).getD v 0
     rw[b4,p4];omega
   ·omega
  ·cases p with
   | nil=>simp at hl
   | cons x p =>
     rcases look x ho.head with ⟨q1,_,q2⟩|⟨_,q2⟩
     ·have:=h3 x ho.head hw.1 q1
      have:=q2 p hw.2 ho.tail (by simpa using hl)
      show(l.foldl (ew cur) (List.replicate 128 aC)).getD v 0≤x.most+aU p
      omega
     ·exact absurd (by simpa using hl) (q2 p hw.2 ho.tail)
 ·right
  refine⟨h1,fun p hw ho hl=>?_⟩
  cases p with
  | nil=>simp at hl
  | cons x p =>
    rcases look x ho.head with ⟨q1,_⟩|⟨_,q2⟩
    ·exact h2 x ho.head hw.1 q1
    ·exact q2 p hw.2 ho.tail (by simpa using hl)
theorem jf {N:Nat} {l:List Bd} {tow:Nat} (hN:N≤128) (hto:tow<N) (hv:au N l):∀k,k≤129→A4 N l tow k (aI l tow k)
 | 0,_=>by
   intro v hvN;unfold aI;rw[cq]
   by_cases e:v=tow
   ·subst e
    rw[if_pos ⟨rfl,by simp;omega⟩]
    left
    refine⟨by unfold aC;omega,⟨[],rfl,Over.nil,rfl,rfl⟩,fun p _ _ hl=>?_⟩;have:p=[]:=List.length_eq_zero_iff.1 hl
    subst this;simp[aU]
   ·rw[if_neg (fun x=>e x.1),fq (by omega)]
    right
    refine⟨rfl,fun p hw _ hl=>?_⟩;have:p=[]:=List.length_eq_zero_iff.1 hl;subst this;simp only[Walk] at hw;omega
 | k+1,hk=>xW hN hv (by omega) (en hv tow k) (jf hN hto hv k (by omega))
def wF (cur nx:List Fr) (b:Bd):List Fr :=
 if(cur.getD b.dst.toNat o6).ok=true then nx.set b.src.toNat (qT (nx.getD b.src.toNat o6) (y9 (cur.getD b.dst.toNat o6) b.most)) else nx
def cC (N:Nat) (l:List Bd) (tow:Nat):Nat→List Fr
 | 0=>(List.replicate N o6).set tow ⟨0,true⟩
 | k+1=>l.foldl (wF (cC N l tow k)) (List.replicate N o6)
def iu (N:Nat) (r:List Int) (f:List Fr):Prop:=f.length=N∧∀v:Nat,v<N→(r.getD v 0<aC∧f.getD v o6=⟨r.getD v 0,true⟩)∨(r.getD v 0=aC∧(f.getD v o6).ok=false)
theorem pR (d:List Fr) (j i:Nat) (v:Fr):(d.set j v).getD i o6=if i=j∧j<d.length then v else d.getD i o6:=by
 simp only[List.getD_eq_getElem?_getD,List.getElem?_set]
 by_cases e:j=i
 ·subst e
  by_cases hl:j<d.length
  ·simp[hl]
  ·simp[hl]
 ·simp[e,Ne.symm e]
theorem qZ {N c:Nat} {cur nx:List Int} {curF nxF:List Fr} {b:Bd} (hN:N≤128) (hc:c≤128) (hb:b.valid N) (hk:dw c cur) (hn:dw (c+1) nx) (H:iu N cur curF) (K:iu N nx nxF):iu N (ew cur nx b) (wF curF nxF b):=by
 obtain⟨v1,v2,v3,v4,v5,v6⟩:=hb;obtain⟨hl,K⟩:=K;unfold ew wF;have hd:=H.2 b.dst.toNat (by omega);have hg:az cur b.dst=cur.getD b.dst.toNat 0:=rfl;rw[hg]
 rcases hd with ⟨d1,d2⟩|⟨d1,d2⟩
 ·rw[if_pos d1,d2]
  rw[if_pos rfl];refine⟨by rw[List.length_set];exact hl,fun v hv=>?_⟩;rw[cq,pR]
  by_cases e:v=b.src.toNat
  ·subst e
   rw[if_pos ⟨rfl,by rw[hn.1];omega⟩,if_pos ⟨rfl,by omega⟩]
   left
   have hs:az nx b.src=nx.getD b.src.toNat 0:=rfl;rw[hs];have hcd:=hk.2 b.dst.toNat;have hnd:=hn.2 b.src.toNat
   have hsum:cur.getD b.dst.toNat 0+b.most<aC:=by unfold aC at *;omega
   rcases K b.src.toNat hv with ⟨k1,k2⟩|⟨k1,k2⟩
   ·rw[k2]
    unfold qT y9
    by_cases hm:cur.getD b.dst.toNat 0+b.most<nx.getD b.src.toNat 0
    ·rw[if_pos (.inr ⟨rfl,hm⟩),Int.min_eq_right (by omega)]
     exact⟨hsum,rfl⟩
    ·rw[if_neg (fun h=>h.elim (fun h=>by cases h) (fun h=>hm h.2)),Int.min_eq_left (by omega)]
     exact⟨k1,rfl⟩
   ·unfold qT y9
    rw[if_pos (.inl k2),Int.min_eq_right (by omega)];exact⟨hsum,rfl⟩
  ·rw[if_neg (fun x=>e x.1),if_neg (fun x=>e x.1)]
   exact K v hv
 ·rw[if_neg (by omega),if_neg (by rw[d2];simp)]
  exact⟨hl,K⟩
theorem kn {N c:Nat} {cur:List Int} {curF:List Fr} (hN:N≤128) (hc:c≤128) (hk:dw c cur) (H:iu N cur curF):∀(l:List Bd) (nx:List Int) (nxF:List Fr),au N l→dw (c+1) nx→iu N nx nxF →
 iu N (l.foldl (ew cur) nx) (l.foldl (wF curF) nxF)
 | [],_,_,_,_,K=>K
 | b::l,_nx,_nxF,hv,hn,K=>kn hN hc hk H l _ _ (fun x hx=>hv x (List.mem_cons_of_mem _ hx)) (mm (hv b (List.mem_cons_self ..)) hk hn) (qZ hN hc (hv b (List.mem_cons_self ..)) hk hn H K)
theorem mQ (N v:Nat):(List.replicate N o6).getD v o6=o6:=by
 simp only[List.getD_eq_getElem?_getD,List.getElem?_replicate]
 split<;>rfl
theorem jE {N:Nat} {l:List Bd} {tow:Nat} (hN:N≤128) (hto:tow<N) (hv:au N l):∀k,k≤129→iu N (aI l tow k) (cC N l tow k)
 | 0,_=>by
   unfold aI cC;refine⟨by simp,fun v hvN=>?_⟩;rw[cq,pR]
   by_cases e:v=tow
   ·subst e
    rw[if_pos ⟨rfl,by simp;omega⟩,if_pos ⟨rfl,by simpa using hvN⟩]
    left;exact⟨by unfold aC;omega,rfl⟩
   ·rw[if_neg (fun x=>e x.1),if_neg (fun x=>e x.1),fq (by omega),mQ]
    right;exact⟨rfl,rfl⟩
 | k+1,hk=>by
   refine kn hN (by omega) (en hv tow k) (jE hN hto hv k (by omega)) l _ _ hv (jH _) ⟨by simp,fun v hvN=>?_⟩;rw[fq (by omega),mQ]
   right;exact⟨rfl,rfl⟩
def iy:Nat→Bool:=fun _=>true
theorem vh (n:Nat):aq iy n=List.range n:=by simp[aq,iy]
theorem i9 (bs:List Bd):bL bs (aq iy bs.length)=bs:=by
 rw[vh]
 apply List.ext_getElem?
 intro i;simp only[bL,List.getElem?_map]
 by_cases h:i<bs.length
 ·rw[List.getElem?_range h,List.getElem?_eq_getElem h]
  simp[List.getD_eq_getElem?_getD,h]
 ·rw[List.getElem?_eq_none (by simpa using h),List.getElem?_eq_none (by omega)];rfl
structure NetOk (N:Nat) (bs:List Bd) (h:List Int):Prop where
 n0:1≤N
 n1:N≤128
 len:bs.length≤2002
 valid:au N bs
 hl:h.length=128
 low:LowBy 520000 h
 pot:yD h bs
theorem iB {N:Nat} {bs:List Bd} {h:List Int} (h0:1≤N) (h1:N≤128) (hl:bs.length≤2002) (hv:au N bs) (e:aG N bs=some h):NetOk N bs h:=by
 refine⟨h0,h1,hl,hv,oL e,(s6 hv e).mono ?_,mU e⟩
 have:((N:Int)+1).toNat=N+1:=by omega
 rw[this];have:=Nat.mul_le_mul (show N+1≤129 by omega) hl;omega
theorem iX {N:Nat} {bs:List Bd} {l:List Int} {h:List Int} (ha:bc N bs l=0) (e:aG N bs=some h):NetOk N bs h:=by
 obtain⟨hc,_,_⟩:=iQ ha;obtain⟨n0,n1,n2,nv⟩:=cR hc;exact iB (by omega) (by omega) (by omega) (fun b hb=>(nv b hb).1) e
theorem NetOk.row {N:Nat} {bs:List Bd} {h:List Int} (H:NetOk N bs h) {a:Nat} (ha:a<N):wM N bs a (dW N h bs a):=yi H.n1 ha H.valid H.pot H.low
theorem NetOk.noNeg {N:Nat} {bs:List Bd} {h:List Int} (H:NetOk N bs h):i7 bs:=fE H.pot
theorem NetOk.row_bd {N:Nat} {bs:List Bd} {h:List Int} (H:NetOk N bs h) {a v:Nat} (ha:a<N) (hv:v<N):-128000000≤(dW N h bs a).getD v 0∧(dW N h bs a).getD v 0≤1125899906842624:=by
 have hn:=H.n1
 rcases(H.row ha).2 v hv with ⟨h1,h2⟩|⟨h1,_⟩
 ·have:=mf H.valid H.noNeg (by omega) (by omega) h2
  omega
 ·rw[h1];unfold aC;omega
theorem mA {α:Type} {p:α→Bool} {d:α}:∀(l:List α) (k:Nat),k<l.length→p (l.getD k d)=true→∃m:Nat,bk p l=m∧m≤k∧p (l.getD m d)=true
 | [],k,hk,_=>by simp at hk
 | x::l,0,_,h=>⟨0,by simp at h;simp[bk,h],Nat.le_refl _,h⟩
 | x::l,k+1,hk,h=>by
   by_cases hx:p x=true
   ·exact⟨0,by simp[bk,hx],by omega,by simpa using hx⟩
   ·obtain⟨m,h1,h2,h3⟩:=mA l k (by simpa using hk) (by simpa using h)
    refine⟨m+1,?_,by omega,by simpa using h3⟩;rw[bk,if_neg hx,h1,if_neg (by omega)];omega
theorem kN {N:Nat} {bs:List Bd} {h:List Int} (H:NetOk N bs h) {a b:Nat} (ha:a<N) (hb:b<N) {d:Int} (hd:j7 bs a b d) :
 ∃m:Nat,bk (fun r:List Int=>r.getD a 0==d) (aK bs b N)=m∧m≤N∧(aI bs b m).getD a 0=d:=by
 obtain⟨⟨p,p1,p2,p3⟩,hlow⟩:=hd;obtain⟨q,q1,q2,q3,q4⟩:=fR H.valid H.noNeg p.length (Nat.le_refl _) (by omega) (by omega) p1 p2;have hn:=H.n1;have hk:=jf H.n1 hb H.valid q.length (by omega)
 have hget:∀k,k≤N→(aK bs b N).getD k []=aI bs b k:=fun k hk=>bP bs b N hk
 have hrow:(aI bs b q.length).getD a 0=d:=by
  rcases hk a ha with ⟨_,⟨r,r1,r2,r3,r4⟩,h3⟩|⟨_,h2⟩
  ·have:=h3 q q1 q2 rfl
   have:=hlow r r1 r2;omega
  ·exact absurd rfl (h2 q q1 q2)
 obtain⟨m,h1,h2,h3⟩:=mA (p:=fun r:List Int=>r.getD a 0==d) (d:=[]) (aK bs b N) q.length (by rw[ct];omega) (by
  rw[hget _ (by omega)];simpa using hrow)
 rw[hget m (by omega)] at h3;exact⟨m,h1,by omega,by simpa using h3⟩
def dK (rows:List (List Int)) (d left at_ sum:Int):Bool:=decide (az (rows.getD left.toNat []) at_<1125899906842624)&&(sum+az (rows.getD left.toNat []) at_==d)
def nE (N:Int) (bs:List Bd):List Int:=(aG N bs).getD []
def aF (N:Nat) (bs:List Bd) (a b:Nat):Int:=(dW N (nE N bs) bs a).getD b 0
def nV (v:Int):Int:=if 1125899906842624≤v then 0 else v
def nB (v:Int):Bool:=decide (v<1125899906842624)
theorem zI {N:Int} {bs:List Bd} {a b:Int} (h:bc N bs [a,b]=0):∃(R x y:Nat) (t:List Int),N=R∧a=x∧b=y∧x<R∧y<R∧aG N bs=some t∧NetOk R bs t:=by
 obtain⟨hc,hp,t,ht⟩:=iQ h;obtain⟨n0,n1,n2,nv⟩:=cR hc;have hpz:=mq hp;have ha:=hpz a (by simp);have hb:=hpz b (by simp);obtain⟨R,rfl⟩:=Int.eq_ofNat_of_zero_le (show 0≤N by omega);obtain⟨x,rfl⟩:=Int.eq_ofNat_of_zero_le ha.1;obtain⟨y,rfl⟩:=Int.eq_ofNat_of_zero_le hb.1;exact⟨R,x,y,t,rfl,rfl,rfl,by omega,by omega,ht,iX h ht⟩
theorem Bc {N:Int} {bs:List Bd} {a:Int} (h:bc N bs [a]=0):∃(R x:Nat) (t:List Int),N=R∧a=x∧x<R∧aG N bs=some t∧NetOk R bs t:=by
 obtain⟨hc,hp,t,ht⟩:=iQ h;obtain⟨n0,n1,n2,nv⟩:=cR hc;have hpz:=mq hp;have ha:=hpz a (by simp);obtain⟨R,rfl⟩:=Int.eq_ofNat_of_zero_le (show 0≤N by omega);obtain⟨x,rfl⟩:=Int.eq_ofNat_of_zero_le ha.1;exact⟨R,x,t,rfl,rfl,by omega,ht,iX h ht⟩
theorem eB {N:Int} {bs:List Bd} {t:List Int} (h:aG N bs=some t):nE N bs=t:=by unfold nE;rw[h];rfl
def dA (N:Nat) (bs:List Bd) (a b:Nat):List Int :=
 cj bs (aq iy bs.length) (dK (aK bs b N) (aF N bs a b)) a (bk (fun r:List Int=>r.getD a 0==aF N bs a b) (aK bs b N)).toNat
def kJ (N:Int) (bs:List Bd) (a b:Int):List Int×Int :=
 if bc N bs [a,b]=0 then(if 1125899906842624≤aF N.toNat bs a.toNat b.toNat then([],5) else(dA N.toNat bs a.toNat b.toNat,0)) else([],bc N bs [a,b])
structure Sp where
 low:Int
 high:Int
 lowest:Bool
 highest:Bool
def sp0:Sp:=⟨0,0,false,false⟩
def BU (d e:Int):Sp:=⟨-nV e,nV d,nB e,nB d⟩
def dh (N:Int) (bs:List Bd) (a b:Int):Sp×Int :=
 if bc N bs [a,b]=0 then(BU (aF N.toNat bs a.toNat b.toNat) (aF N.toNat bs b.toNat a.toNat),0) else(sp0,bc N bs [a,b])
theorem sq {α:Type} (f:Nat→α) (z:α) {N k:Nat} (hk:k<N):((List.range k).map f++List.replicate (N-k) z).set k (f k)=(List.range (k+1)).map f++List.replicate (N-(k+1)) z:=by
 apply List.ext_getElem?
 intro i
 have hr:∀m,(List.range m)[i]?=if i<m then some i else none:=by
  intro m
  split
  ·rw[List.getElem?_range ‹_›]
  ·rw[List.getElem?_eq_none (by simp;omega)]
 rw[List.getElem?_set];simp only[List.length_append,List.length_map,List.length_range,List.length_replicate,List.getElem?_append,List.getElem?_map,List.getElem?_replicate,hr]
 by_cases e:k=i
 ·subst e
  rw[if_pos rfl,if_pos (by omega),if_pos (by omega),if_pos (by omega)];rfl
 ·rw[if_neg e]
  by_cases h1:i<k
  ·simp only[h1,show i<k+1 by omega,if_true]
  ·have h2:¬i<k+1:=by omega
   simp only[h1,h2,if_false]
   by_cases h3:i<N
   ·rw[if_pos (by omega),if_pos (by omega)]
   ·rw[if_neg (by omega),if_neg (by omega)]
end Go.Proofs.YtkhemfnlflbniaaGreatDoor
namespace Go.Proofs.YtkhemfnlflbniaaGreatDoor
open Go Go.RowKit Go.Shelf Tryz
theorem fY (w:World) (r:List Int) (k:Nat) (hr:r.length=128) (hk:k<128):(Instr.index 189 (.agg (bt r)) (.int .i64 (k:Int))).run prog w=.ok (.int .i64 (r.getD k 0)) w:=by
 have hs:(Tryz.prog.info? 3).map (·.size)=some 1:=by kernel_rfl
 have hg:=dE (l:=r) (i:=k) (by omega);unfold Instr.index;simp only[Sem.run_bind,run_underlying underlying189,asIntOf,Sem.run_pure,Result.andThen_ok]
 have hc:(0:Int)≤(k:Int)∧(k:Int)<((128:Nat):Int):=by omega
 rw[if_pos hc];simp[go_sem,hg,part]
theorem rL (w:World) (x y:Int):IntsAt (w.alloc (.cells #[.int .i64 x,.int .i64 y] 3)) (some ⟨w.heap.size,0,none⟩) [x,y] :=
 .inr ⟨_,_,rfl,by simp,fun i hi=>by
  rw[cell_of_row _ _ _ _ _ _ (heap_alloc_new w _)]
  match i,hi with
  | 0,_=>rfl
  | 1,_=>rfl⟩
theorem tk (w:World) (x:Int):IntsAt (w.alloc (.cells #[.int .i64 x] 3)) (some ⟨w.heap.size,0,none⟩) [x] :=
 .inr ⟨_,_,rfl,by simp,fun i hi=>by
  rw[cell_of_row _ _ _ _ _ _ (heap_alloc_new w _)]
  match i,hi with
  | 0,_=>rfl⟩
theorem jp (Fix:Nat→Prop) (w:World) (n:Nat):eJ prog 152 #[] Fix w n iy:=fun _k _ _W _=>(Aw _ _).mono fun _ _ ⟨he,hw⟩=>⟨he,hw▸Below.refl _ _⟩
theorem iq:Enters prog 152:=enters_of func152 (by kernel_rfl) rfl
theorem ki (w:World) (bn R:Nat) (a:Option Addr) (cap:Nat) (bs:List Bd) (t:List Int) (x:Nat) (H:NetOk R bs t) (hx:x<R) (hB:BoundsAt w a bs) (hn:w.heap[bn]?=some (.cells (lG R (.slice a bs.length cap) t) 265 (0,0))) :
 Calls prog 191 #[.pointer (some ⟨bn,0,none⟩),.int .i64 x,.func (.func 152) #[] #[]] w fun e w'=>e=.returned (.agg (bt (dW R t bs x)))∧Below w.heap.size w w':=by
 have:=pD w bn R a cap bs t x 152 #[] iy H.n0 H.n1 (by have:=H.len;omega) hB H.valid hn H.hl H.low H.pot hx (jp _ _ _) iq;rwa [i9] at this
theorem tL {P : Program} {Q : Exit → Act → World → Prop} {a : Act} {w : World} {l : List Oper} (n : Nat) (hB : Region.lexTailB .any l.toArray n = true)
 (h:wpStill P l.toArray w (fun a'=>wpList P l.toArray Q (l.drop n) a' w) (l.take n) a):wpAny P .any l.toArray Q l.toArray.size (Array.replicate l.toArray.size false) a w:=by
 simp only[Region.lexTailB,Bool.and_eq_true,decide_eq_true_eq] at hB;obtain⟨⟨⟨⟨b1,b2⟩,b3⟩,b4⟩,b5⟩:=hB
 have k1 : (l.take n).length = n := by rw [List.length_take]; have : n < l.length := by simpa using b2
                                       omega
 have k2:(l.drop n).length=l.toArray.size-n:=by simp
 have head:∀j,j<(l.take n).length→(l.take n)[j]?=l.toArray[0+j]?:=by
  intro j hj;rw[List.getElem?_take_of_lt (by omega)];simp
 have none0:HeadInv .any l.toArray n (Array.replicate l.toArray.size false):=by
  refine⟨by simp,?_,?_⟩
  ·intro j oj _ e;rw[getD_replicate_false] at e;cases e
  ·intro t _ ht;exact getD_in (by simpa using ht) (getD_replicate_false _ _)
 have tail:∀(listed:Array Bool) (a':Act),Region.seqB .any l.toArray (l.toArray.size-n) n listed=true∧wpList P l.toArray Q (l.drop n) a' w→wpAny P .any l.toArray Q (l.toArray.size-n) listed a' w:=by
  rintro listed a' ⟨e1,e2⟩;have e3:=wpAny_of_seq (md:=.any) (l.drop n) n listed a' w (fun j=>by simp[List.getElem?_drop]) (by rw[k2];exact e1) e2;rw[k2] at e3;exact e3
 have all:=wpAny_of_head (Q':=Q) (g:=l.toArray.size-n) tail _ _ _ (wpAnyL_lex (md:=.any) b1 b3 b4 b2 (l.take n) 0 _ a head (by rw[Nat.zero_add];exact k1) none0 (by rw[k1];exact b5) h);rw[k1,show n+(l.toArray.size-n)=l.toArray.size by omega] at all;exact all
theorem eA {P:Program} {l:List Oper} {Q:Exit→Act→World→Prop} {id m lv:Nat} {a:Act} {w:World} (n:Nat) (hm:P.follows .mixedOrders=true) (hB:Region.lexTailB .any l.toArray n=true) (hnd:nh l.toArray=true) (hout:¬LetsOut Q)
 (h:wpStill P l.toArray w.drew (fun a'=>wpList P l.toArray Q (l.drop n) a' w.drew) (l.take n) a):(Code.region id l.toArray true).wpIn (Fence.wide.inRound lv) m P Q a w :=
 wpIn_region_any hm (dO lv m (im hnd) hout _ _ _ _ (tL n hB h))
theorem tH {l:List Int} (hl:l.length=128):Tryz.prog.builtSlice 189 1 [(0,.agg (bt l))]=some (bt l):=by
 have i94:(Tryz.prog.info? 189).map (·.size)=some 128:=by kernel_rfl
 have z94:((Tryz.prog.info? 189).bind (·.zero)).isSome=true:=by kernel_rfl
 unfold Program.builtSlice
 cases hi:Tryz.prog.info? 189 with
 | none=>rw[hi] at i94;cases i94
 | some ie =>
   rw[hi] at i94 z94;simp only[Option.map_some,Option.some.injEq,Option.bind_some] at i94 z94;obtain⟨z,hz⟩:=Option.isSome_iff_exists.1 z94;simp only[hz,i94];rw[if_neg (by omega)]
   have:=Great.fill_whole (s:=128) (by omega) [.agg (bt l)] ((Array.range (1*128)).map (z.cells[·%z.cells.size]!)) (fun v hv=>by
    rw[List.mem_singleton.1 hv]
    show(bt l).size=128
    rw[aZ,hl]) (by simp)
   exact this.trans (by simp[Value.cells])
theorem uV (n:Int) {i:Nat} (h:i<128):(aX n).getD i 0=n:=by
 unfold aX
 rw[List.getD_eq_getElem?_getD,List.getElem?_replicate,if_pos h];rfl
theorem aN {P:Program} {ops:Array Oper} {rest:List Oper} {o:Oper} {a:Act} {w:World} {Q:Exit→Act→World→Prop} (hg:o.guard=none) {w':World} {s x:Operand} {t:TypeId} {vs vx v:Value}
 (hop:o.op=Op.call { callee:=Callee.builtin Builtin.append,args:=#[s,x],argTypes:=#[t,t] }) (hs:a.eval s=vs) (hx:a.eval x=vx) (hrun:(Builtin.append_ #[t,t] o.type #[vs,vx]).run P w=.ok v w')
 (h:wpList P ops Q rest (a.put o.dst v) w'):wpList P ops Q (o::rest) a w :=
 wpList_plain hg fun K hK=>by
  unfold Oper.wp;rw[dR hop hs hx hrun];exact hK _ _ h
def eO (rows:List (List Int)):List Value:=rows.flatMap ay
theorem rF (a b:List (List Int)):eO (a++b)=eO a++eO b:=by simp[eO]
theorem lw (r:List Int):eO [r]=ay r:=by simp[eO]
theorem qr:∀(rows:List (List Int)) (k:Nat) (_:∀r∈rows,r.length=128) (_:k<rows.length) (p:Nat),p<128→(eO rows)[k*128+p]?=some (.int .i64 ((rows.getD k []).getD p 0))
 | [],k,_,h,_,_=>by simp at h
 | r::rows,0,hr,_,p,hp=>by
   have h0:=hr r (List.mem_cons_self ..);simp only[eO,List.flatMap_cons];rw[List.getElem?_append_left (by simp[ay];omega)];simp[ay,List.getD_eq_getElem?_getD,show p<r.length by omega]
 | r::rows,k+1,hr,hk,p,hp=>by
   have h0:=hr r (List.mem_cons_self ..);have ih:=qr rows k (fun x hx=>hr x (List.mem_cons_of_mem _ hx)) (by simpa using hk) p hp;simp only[eO,List.flatMap_cons] at ih ⊢;rw[List.getElem?_append_right (by simp[ay];omega)];rw[show(k+1)*128+p-(ay r).length=k*128+p by simp[ay];omega];simpa using ih
theorem k8:∀(rows:List (List Int)) (_:∀r∈rows,r.length=128),(eO rows).length=rows.length*128
 | [],_=>rfl
 | r::rows,hr=>by
   have ih:=k8 rows (fun x hx=>hr x (List.mem_cons_of_mem _ hx));have h0:=hr r (List.mem_cons_self ..);simp only[eO,List.flatMap_cons,List.length_append,List.length_cons] at ih ⊢;rw[ih];simp only[ay,List.length_map];omega
structure KeepsD (B:Nat) (W W':World):Prop where
 below:Below B W W'
 cells:∀(k:Nat) (c:Array Value) (t:TypeId) (f:Nat×Nat),W.heap[k]?=some (.cells c t f)→W'.heap[k]?=some (.cells c t f)
theorem KeepsD.refl (B:Nat) (W:World):KeepsD B W W:=⟨Below.refl _ _,fun _ _ _ _ h=>h⟩
def Marks (B:Nat) (ds:List Deferred) (W:World):Prop :=
 ∃Ds:List Nat,ds=Ds.map (fun D=>{ target:=.collected D,args:=#[] })∧Ds.Nodup∧∀D∈Ds,B≤D∧W.heap[D]?=some (.deferred (some []))
theorem Marks.nil (B:Nat) (W:World):Marks B [] W:=⟨[],rfl,List.nodup_nil,fun _ h=>by cases h⟩
theorem Marks.cons {B:Nat} {ds:List Deferred} {W W':World} {D:Nat} (h:Marks B ds W) (hk:∀D,B≤D→W.heap[D]?=some (.deferred (some []))→W'.heap[D]?=some (.deferred (some []))) (hB:B≤D) (hf:W.heap.size≤D) (hD:W'.heap[D]?=some (.deferred (some []))) :
 Marks B ({ target:=.collected D,args:=#[] }::ds) W':=by
 obtain⟨Ds,e,hn,hDs⟩:=h;refine⟨D::Ds,by rw[e];rfl,List.nodup_cons.2 ⟨fun hm=>?_,hn⟩,fun D' hm=>?_⟩
 ·have:=lt_of_block (hDs D hm).2
  omega
 ·rcases List.mem_cons.1 hm with rfl|hm
  ·exact⟨hB,hD⟩
  ·exact⟨(hDs D' hm).1,hk D' (hDs D' hm).1 (hDs D' hm).2⟩
theorem fJ {P:Program} {F:Fence} {n:Nat} {fn:Func} {tmps:Array Value} {R:Ending→World→Prop} {B:Nat}:∀(ds:List Deferred) (W:World),Marks B ds W →
 (∀W',KeepsD B W W'→∃v,(results fn tmps).run P W'=.ok v W'∧R (.returned v) W')→LeavesInM F n P fn tmps R ds .returning W:=by
 rintro ds W ⟨Ds,rfl,hn,hD⟩
 induction Ds generalizing W with
 | nil=>intro h;exact h W (KeepsD.refl _ _)
 | cons D Ds ih =>
   intro h;have h0:=hD D (List.mem_cons_self ..)
   have k0:KeepsD B W (W.putObj D (.deferred none)):=⟨kj (Below.refl _ _) h0.1 _,fun k c t f hk=>by
    rw[World.putObj_heap_other (fun e=>by rw[e,h0.2] at hk;cases hk)];exact hk⟩
   refine⟨by simp,.inl ⟨_,_,rfl,run_takeDeferred h0.2,ih _ (List.nodup_cons.1 hn).2 (fun D' hm=>⟨(hD D' (List.mem_cons_of_mem _ hm)).1,?_⟩) (fun W' k1=>h W' ⟨k0.below.trans k1.below,fun k c t f hk=>k1.cells k c t f (k0.cells k c t f hk)⟩)⟩⟩
   have hne:D'≠D:=by intro e;rw[e] at hm;exact(List.nodup_cons.1 hn).1 hm
   rw[World.putObj_heap_other hne];exact(hD D' (List.mem_cons_of_mem _ hm)).2
attribute [local go_sem] Oper.semAt_some
structure Cf (w W:World) (N:Int) (a:Option Addr) (len cap base b9 k:Nat) (rows:List (List Int)):Prop where
 box:W.heap[w.heap.size]?=some (.cells #[.int .i64 N,.slice a len cap] 61 (0,0))
 var:∃g cp,W.heap[b9]?=some (.cells #[.slice (some ⟨g,0,none⟩) (k+1) cp] 185 (0,0))∧W.ownsRow base 189 128 (.slice (some ⟨g,0,none⟩) (k+1) cp) (k+1) (eO rows)
 bl:Below w.heap.size w W
theorem av {W W':World} {base:Nat} {e:TypeId} {size:Nat} {v:Value} {n:Nat} {xs:List Value} (h:W.ownsRow base e size v n xs) (hb:∀g,v.ownBlock=some g→W'.heap[g]?=W.heap[g]?):W'.ownsRow base e size v n xs:=by
 refine⟨h.1,?_⟩
 rcases h.2 with h0|⟨g,cp,cur,e,hg,hh,r⟩
 ·exact .inl h0
 ·exact .inr ⟨g,cp,cur,e,hg,by rw[hb g (by rw[e];rfl)];exact hh,r⟩
theorem pX {W:World} {base g n cp:Nat} {rows:List (List Int)} (h:W.ownsRow base 189 128 (.slice (some ⟨g,0,none⟩) n cp) n (eO rows)) (hr:∀r∈rows,r.length=128) {k p:Nat} (hk:k<rows.length) (hp:p<128) :
 W.cell? ⟨g,k*128+p,none⟩=some (.int .i64 ((rows.getD k []).getD p 0)):=by
 rcases h.2 with ⟨e,_⟩|⟨g',cp',cur,e,_,hh,_,_,_,htk⟩
 ·cases e
 ·cases e
  have hlen:=h.1;rw[k8 rows hr] at hlen;rw[cell_of_row _ _ _ _ _ _ hh];have:=qr rows k hr hk p hp;rw[←htk,List.getElem?_take_of_lt (by omega)] at this;simpa using this
theorem ix {N:Int} {l:List Bd} (hv:∀b∈l,b.valid N) (tow k:Nat):∀r∈aK l tow k,r.length=128:=by
 intro r hr;simp only[aK,List.mem_map] at hr;obtain⟨i,_,rfl⟩:=hr;exact(en hv tow i).1
theorem bF {W:World} {base base':Nat} {e:TypeId} {size:Nat} {v:Value} {n:Nat} {xs:List Value} (h:W.ownsRow base e size v n xs) (hb:base'≤base):W.ownsRow base' e size v n xs:=by
 refine⟨h.1,?_⟩
 rcases h.2 with h0|⟨g,cp,cur,e,hg,r⟩
 ·exact .inl h0
 ·exact .inr ⟨g,cp,cur,e,Nat.le_trans hb hg,r⟩
theorem Bk:(Tryz.prog.info? 189).map (fun i=>(i.zero,i.size,i.bytes))=some (some (.agg zeroCells189),128,1024):=by kernel_rfl
theorem lF (w:World) (N:Int) (R:Nat) (a:Option Addr) (cap:Nat) (bs:List Bd) (tow most:Nat) (tf:FuncId) (caps:Array Value) (t:Nat→Bool) (hR1:R≤128) (hl:bs.length≤4000)
 (hB:BoundsAt w a bs) (hv:∀b∈bs,b.valid R) (hto:tow<R) (hm:most≤128) (hT:eJ prog tf caps (·<w.heap.size) w bs.length t) (eg:Enters prog tf) :
 Calls prog 151 #[.agg #[.int .i64 N,.slice a bs.length cap],.int .i64 tow,.int .i64 most,.func (.func tf) #[] caps] w fun e w'=>∃g cp,e=.returned (.slice (some ⟨g,0,none⟩) (most+1) cp)∧Below w.heap.size w w' ∧
  w'.ownsRow w.heap.size 189 128 (.slice (some ⟨g,0,none⟩) (most+1) cp) (most+1) (eO (aK (bL bs (aq t bs.length)) tow most)):=by
 have i94:Hid ((Tryz.prog.info? 189).map (·.size)=some 128):=aa (by kernel_rfl);have H:=aa hB;have HV:=aa hv;have HT:=aa hT;have EG:=aa eg;clear hB hv hT eg;refine(callsIn_wide (n:=8)).1 (callsIn_of_wp_marks func151 rfl trivial (wpIn_wide.2 ?_) rfl);simp only[ntmps151,List.size_toArray,List.length_cons,List.length_nil,Nat.reduceAdd,Nat.reduceSub,Array.replicate_succ,Array.replicate_zero,List.push_toArray,List.append_toArray,List.nil_append,List.cons_append];go_wp2_with fail;refine(ke _ _).mono ?_;rintro e w1 ⟨rfl,hb1⟩;have hbr:Hid (Tryz.prog.builtSlice 189 1 [(0,.agg (bt (aX 1125899906842624)))]=some (bt (aX 1125899906842624))):=aa (tH (aM _))
 have hget:(bt (aX 1125899906842624))[tow]?=some (.int .i64 1125899906842624):=by rw[dE (by rw[aM];omega),uV _ (by omega)]
 go_wp2_with (first
  | (refine Great.wpList_buildSliceTo rfl 185 189 1 _ rfl _ rfl _ rfl underlying185 _ (by simp[Act.eval];exact hbr.out) ?_))
 have hs1:w.heap.size<w1.heap.size:=by have:=hb1.size;simp at this;omega
 obtain⟨W1,hW1⟩:∃W1,W1=(w1.alloc (Obj.cells ((bt (aX 1125899906842624)).setIfInBounds tow (.int .i64 0)) 189)).alloc (Obj.cells #[.slice (some ⟨w1.heap.size,0,none⟩) 1 1] 185):=⟨_,rfl⟩;rw[←hW1]
 have st0:Cf w W1 N a bs.length cap w1.heap.size (w1.heap.size+1) 0 (aK (bL bs (aq t bs.length)) tow 0):=by
  refine⟨?_,⟨w1.heap.size,1,?_,?_,?_⟩,?_⟩
  ·rw[hW1]
   refine ac ((Below.refl _ _).alloc (by simp) _) hs1 (ac (aD) hs1 (ac hb1 (by simp) (heap_alloc_new _ _)))
  ·rw[hW1,af _ _ _ (by simp)]
  ·show(eO [aI _ tow 0]).length=_
   rw[lw];simp[ay,aI]
  ·refine .inr ⟨w1.heap.size,1,(bt (aX 1125899906842624)).setIfInBounds tow (.int .i64 0),rfl,Nat.le_refl _,?_,by omega,by simp[maxLen],?_,?_⟩
   ·rw[hW1,Below.heap_alloc _ _ _ (by simp)];exact heap_alloc_new _ _
   ·rw[Array.size_setIfInBounds,aZ,aM]
   ·show _=eO [aI _ tow 0]
    rw[lw,i4];simp only[bt,aI];rw[List.take_of_length_le (by simp[ay,aM])]
    rfl
  ·rw[hW1]
   exact(((Below.refl w.heap.size w).alloc (Nat.le_refl _) _).trans (hb1.mono (by simp))).trans (((Below.refl _ _).alloc (by omega) _).alloc (by simp;omega) _)
 have hz1:W1.heap.size=w1.heap.size+2:=by rw[hW1];simp
 clear hW1 hget;have ST0:=aa st0;clear st0
 refine wp_loop_ghost_k (fun n a' W=>∃u10 u11 u13 u14 u22 u23 u24 u25 u26 u27 u28 u29 u30 u31 u32 u33 u34 u35 u36 u37 u38 u39 u40 u41 u42 u43 u44 u45 u46 u47 u48 u49 u50 u51 u52 u53 u54 u55 u56 u57 ds,(∃k:Nat,k≤most∧n=most-k∧u22=.int .i64 k∧Hid (Cf w W N a bs.length cap w1.heap.size (w1.heap.size+1) k (aK (bL bs (aq t bs.length)) tow k))∧Hid (Marks w1.heap.size ds W)∧w1.heap.size+2≤W.heap.size) ∧
  a'={ tmps:=[.agg #[.int .i64 N,.slice a bs.length cap],.int .i64 tow,.int .i64 most,.func (.func tf) #[] caps,.pointer (some ⟨w.heap.size,0,none⟩),undef,undef,undef,.slice none 0 0,.pointer (some ⟨w1.heap.size+1,0,none⟩),u10,u11,undef,u13,u14,.agg (bt (aX 1125899906842624)),.slice (some ⟨w1.heap.size,0,none⟩) 1 1,.slice (some ⟨w1.heap.size,0,none⟩) 1 1,.int .i64 tow,.pointer (some ⟨w1.heap.size,0,none⟩),.pointer (some ⟨w1.heap.size,tow,none⟩),.int .i64 most,u22,u23,u24,u25,u26,u27,u28,u29,u30,u31,u32,u33,u34,u35,u36,u37,u38,u39,u40,u41,u42,u43,u44,u45,u46,u47,u48,u49,u50,u51,u52,u53,u54,u55,u56,u57,undef].toArray,defers:=ds }) most ?_ ?_
 ·exact⟨_,_,_,_,_,_,_,_,_,_,_,_,_,_,_,_,_,_,_,_,_,_,_,_,_,_,_,_,_,_,_,_,_,_,_,_,_,_,_,_,_,⟨0,by omega,rfl,rfl,ST0,aa (Marks.nil _ _),by omega⟩,rfl⟩
 ·rintro n _ wr ⟨u10,u11,u13,u14,u22,u23,u24,u25,u26,u27,u28,u29,u30,u31,u32,u33,u34,u35,u36,u37,u38,u39,u40,u41,u42,u43,u44,u45,u46,u47,u48,u49,u50,u51,u52,u53,u54,u55,u56,u57,ds,⟨k,hk,rfl,rfl,hst,hmk,hsz⟩,rfl⟩ J K hJ hK
  by_cases hlt:k<most
  ·obtain⟨g,cp,hvar,hown⟩:=hst.out.var
   have cbx:wr.cell? ⟨w.heap.size,1,none⟩=some (.slice a bs.length cap):=bu hst.out.box rfl;have HVAR:=aa hvar;have HOWN:=aa hown;clear hvar hown;go_wp2_with fail;refine(ke _ _).mono ?_;rintro e w2 ⟨rfl,hb2⟩
   have hs2:wr.heap.size<w2.heap.size:=by have:=hb2.size;simp at this;omega
   have B2:=aa (((Below.refl wr.heap.size wr).alloc (Nat.le_refl _) (Obj.cells #[.int .i64 (k:Int)] 3)).trans (hb2.mono (by simp)));have hbk:=ac hb2 (by simp) (heap_alloc_new wr (Obj.cells #[.int .i64 (k:Int)] 3));have HBK:=aa hbk;clear hbk;have c1:w2.cell? ⟨w.heap.size,1,none⟩=some (.slice a bs.length cap):=(B2.out.cell (by show w.heap.size<_;omega)).trans cbx
   have hsw2:w.heap.size<w2.heap.size:=by omega
   have hsw21:w.heap.size<w2.heap.size+1:=by omega
   have hst':(w2.alloc (.cells zeroCells189 189)).heap[w2.heap.size]?=some (.cells (bt (aX 0)) 189 (0,0)):=by rw[xq];exact heap_alloc_new _ _
   have HST:=aa hst';clear hst' hb2 cbx
   go_wp2_with (first
    | (refine wpList_store_row rfl 189 _ _ rfl _ _ rfl rfl 189 _ HST.out (by rw[aZ];simpa [aM] using i94.out) (by rw[aZ,aZ];simp[aM]) (fP _) ?_;rw[World.setRow_alloc_new])
    | (go_at_call 228;refine(l9 _ _ _ _ _ _).mono ?_;rintro e w' ⟨rfl,rfl⟩))
   obtain⟨W0,hW0⟩:∃W0,W0=((w2.alloc (Obj.cells (bt (aX 1125899906842624)) 189)).alloc (Obj.cells #[Value.slice a bs.length cap] 59)).alloc (Obj.cells #[Value.func (Fn.func tf) #[] caps] 187):=⟨_,rfl⟩;rw[←hW0];obtain⟨cur,hcur⟩:=ag (aI (bL bs (aq t bs.length)) tow k)
   have hcok:dw k cur:=by
    rw[←hcur];exact en (N:=(R:Int)) (fun b hb=>HV.out b (gR (fun q hq=>(ee.1 hq).1) hb)) tow k
   have HCUR:=aa hcur;have HCOK:=aa hcok;clear hcur hcok
   have z0:W0.heap.size=w2.heap.size+3:=by rw[hW0];simp
   have o11:W0.heap[w2.heap.size]?=some (.cells (bt (aX aC)) 189 (0,0)):=by rw[hW0,Below.heap_alloc _ _ _ (by simp only[World.size_alloc];omega),Below.heap_alloc _ _ _ (by simp only[World.size_alloc];omega),af _ _ _ rfl];rfl
   have o3':W0.heap[w2.heap.size+1]?=some (.cells #[.slice a bs.length cap] 59 (0,0)):=by rw[hW0,Below.heap_alloc _ _ _ (by simp only[World.size_alloc];omega),af _ _ _ (by simp only[World.size_alloc])]
   have o4':W0.heap[w2.heap.size+2]?=some (.cells #[.func (.func tf) #[] caps] 187 (0,0)):=by rw[hW0,af _ _ _ (by simp only[World.size_alloc])]
   have o3:W0.cell? ⟨w2.heap.size+1,0,none⟩=some (.slice a bs.length cap):=cell_of_one o3';have o4:W0.cell? ⟨w2.heap.size+2,0,none⟩=some (.func (.func tf) #[] caps):=cell_of_one o4'
   have b02:Below w2.heap.size w2 W0:=by rw[hW0];go_grown
   clear hW0 c1 HST o3' o4';have b0r:Below wr.heap.size wr W0:=B2.out.trans (b02.mono (by omega));have b00:Below w.heap.size w W0:=hst.out.bl.trans (b0r.mono (by omega));have hB0:BoundsAt W0 a bs:=H.out.below b00 (Nat.le_refl _)
   have hT0:eJ prog tf caps (fun b=>b<w.heap.size∨b=w2.heap.size+1∨b=w2.heap.size+2) W0 bs.length t :=
    fun q hq W hkp=>HT.out q hq W ⟨Nat.le_trans b00.size hkp.size,fun b hb=>(hkp.same b (.inl hb)).trans (b00.block b hb)⟩
   have v10:W0.heap[wr.heap.size]?=some (.cells #[.int .i64 (k:Int)] 3 (0,0)):=ac b02 hs2 HBK.out;have v9:W0.heap[w1.heap.size+1]?=some (.cells #[.slice (some ⟨g,0,none⟩) (k+1) cp] 185 (0,0)):=ac b0r (by omega) HVAR.out
   have hg9:g≠w1.heap.size+1:=by
    rcases HOWN.out.2 with ⟨e,_⟩|⟨g',cp',cu,e,hb,hh,_⟩
    ·cases e
    ·cases e
     intro e2;rw[e2,HVAR.out] at hh;cases hh
   have hgw:g<wr.heap.size∧w1.heap.size≤g:=by
    rcases HOWN.out.2 with ⟨e,_⟩|⟨g',cp',cu,e,hb,hh,_⟩
    ·cases e
    ·cases e;exact⟨lt_of_block hh,hb⟩
   have vown:W0.ownsRow w1.heap.size 189 128 (.slice (some ⟨g,0,none⟩) (k+1) cp) (k+1) (eO (aK (bL bs (aq t bs.length)) tow k)) :=
    av HOWN.out (fun g' e=>by simp only[Value.ownBlock,Option.some.injEq] at e;rw[←e];exact b0r.block _ hgw.1)
   refine gK (w2.heap.size+1) (w2.heap.size+2) (fun b=>b<w.heap.size∨b=w2.heap.size+1∨b=w2.heap.size+2) a cap bs tf caps t rfl hl hB0 hT0 EG.out
    (by intro b hb;omega) (.inr (.inl rfl)) (.inr (.inr rfl)) ?fa o3 o4
    (fun pre W=>W.heap[w2.heap.size]?=some (.cells (bt ((bL bs (pre.map (·.1))).foldl (ew cur) (aX aC))) 189 (0,0))∧(∀b,b<W0.heap.size→b≠w2.heap.size→W.heap[b]?=W0.heap[b]?)∧Below w2.heap.size W0 W)
    (fun _ _ _=>False) ?own (fun c s W W' row h=>h.elim) ⟨o11,fun _ _ _=>rfl,Below.refl _ _⟩ (fun pre W h=>h.2.2.size)
    (fun Bx W=>True) (fun _ _ _ _ _ _ _ _=>trivial) (fun _ _ _ _=>trivial)
    (fun T x Bx=>((T.setIfInBounds 30 (.int .i64 (x.1:Int))).setIfInBounds 31 (bs[x.1]'x.2.1).val).setIfInBounds 13 (.pointer (some ⟨Bx,0,none⟩)))
    ?assign ?body ?done (fun _ _ _ _ _ _ h=>h.elim)
   case fa =>
    intro x hx h0;subst hx
    rcases H.out with e|⟨b,off,e,hbl,_⟩
    ·subst e;simp at h0
    ·cases e;exact .inl hbl
   case own =>
    rintro pre W W' row ⟨h1,h2,h3⟩ hg hr;refine⟨?_,fun b hb hne=>?_,h3.grown hg (by have:=h3.size;omega) (fun k e=>by have:=(hr k e).1;omega)⟩
    ·rw[hg.block _ (lt_of_block h1) (fun e=>by have:=(hr _ e.symm).1;omega)];exact h1
    ·rw[hg.block b (by have:=h3.size;omega) (fun e=>by have:=(hr _ e.symm).1;omega)];exact h2 b hb hne
   case assign =>
    intro l x W K hK;simp only[rI,rH,rJ,Bd.val] at hK ⊢;gi_wp2;exact hK
   case body =>
    rintro l pre x Bx W hle ⟨r,hlp⟩ ⟨h1,h2,h3⟩ hBx hc _ hlen;simp only[rI,rH,rJ,Bd.val];have hmem:bs[x.1]'x.2.1∈bs:=List.getElem_mem _
    have hsel:bL bs ((pre++[x]).map (·.1))=bL bs (pre.map (·.1))++[bs[x.1]'x.2.1]:=by
     rw[List.map_append,mo];simp[bL,x.2.1]
    obtain⟨y,hy⟩:=ag (bs[x.1]'x.2.1);rw[hy] at hmem hc hsel ⊢;obtain⟨v1,v2,v3,v4,v5,v6⟩:=HV.out y hmem;obtain⟨ys,yd,ym,yr⟩:=y;simp only at v1 v2 v3 v4 v5 v6;obtain⟨si,rfl⟩:=Int.eq_ofNat_of_zero_le v1;obtain⟨di,rfl⟩:=Int.eq_ofNat_of_zero_le v3;obtain⟨nx,hnx⟩:=ag ((bL bs (pre.map (·.1))).foldl (ew cur) (aX aC))
    have hnxok:dw (k+1) nx:=by
     rw[←hnx];exact mD (N:=(R:Int)) _ _ (fun b hb=>HV.out b (gR (by intro q hq;simp only[List.mem_map] at hq;obtain⟨z,_,rfl⟩:=hq;exact z.2.1) hb)) HCOK.out (jH _)
    have hstep:(bL bs ((pre++[x]).map (·.1))).foldl (ew cur) (aX aC)=ew cur nx ⟨si,di,ym,yr⟩:=by rw[hsel,List.foldl_append,hnx];rfl
    rw[hnx] at h1;have hlW:=h3.size;have k9:W.cell? ⟨w1.heap.size+1,0,none⟩=some (.slice (some ⟨g,0,none⟩) (k+1) cp):=cell_of_one ((h2 _ (by omega) (by omega)).trans v9);have k10:W.cell? ⟨wr.heap.size,0,none⟩=some (.int .i64 (k:Int)):=cell_of_one ((h2 _ (by omega) (by omega)).trans v10)
    have kg:W.cell? ⟨g,k*128+di,none⟩=some (.int .i64 (cur.getD di 0)):=by
     have:=pX (av vown (W':=W) (fun g' e=>by simp only[Value.ownBlock,Option.some.injEq] at e;rw[←e];exact h2 _ (by show g<_;omega) (by show g≠_;omega)))
      (ix (N:=(R:Int)) (fun b hb=>HV.out b (gR (fun q hq=>(ee.1 hq).1) hb)) tow k) (k:=k) (p:=di) (by rw[ct];omega) (by omega)
     rw[bP _ _ _ (Nat.le_refl _),HCUR.out] at this;exact this
    have y0:W.cell? ⟨Bx,0,none⟩=some (.int .i64 si):=bu hc rfl;have y1:W.cell? ⟨Bx,1,none⟩=some (.int .i64 di):=bu hc rfl;have y2:W.cell? ⟨Bx,2,none⟩=some (.int .i64 ym):=bu hc rfl
    have n0:W.cell? ⟨w2.heap.size,si,none⟩=some (.int .i64 (nx.getD si 0)):=by rw[cell_of_row _ _ _ _ _ _ h1,dE (by rw[hnxok.1];omega)]
    have n1:W.frozen? ⟨w2.heap.size,si,none⟩=false:=frozen_of_row _ _ _ _ _ h1;have hsd:=hnxok.2 si;have hcd:=HCOK.out.2 di;obtain⟨vd,hvd⟩:=ag (cur.getD di 0);obtain⟨vs,hvs⟩:=ag (nx.getD si 0);rw[hvd] at kg hcd;rw[hvs] at n0 hsd;unfold aC at hcd hsd;have H1:=aa h1;have H2:=aa h2;have H3:=aa h3;have HSTEP:=aa hstep;have HVD:=aa hvd;have HVS:=aa hvs;have hBW:=lt_of_block hc;clear h1 h2 h3 hstep hvd hvs hnx hc hy hsel hmem hnxok hlp
    have k128:(k:Int)<128:=by omega
    have kk1:(k:Int)<(k:Int)+1:=by omega
    have s128:(si:Int)<128:=by omega
    have d128:(di:Int)<128:=by omega
    have hmx:Tryz.prog.follows Departure.mixedOrders=true:=by kernel_rfl
    gi_wp2_with fail;refine eA 7 hmx (by kernel_rfl) (by kernel_rfl) ?hout ?_
    case hout =>
     rintro⟨a,w,h⟩;exact h
    simp only[List.take_succ_cons,List.take_zero,List.drop_succ_cons,List.drop_zero]
    repeat still_step
    refine wpStill_nil ?_
    by_cases hfar:vd<1125899906842624
    ·go_wp2_with fail
     gi_wp2_with fail;refine eA 12 hmx (by kernel_rfl) (by kernel_rfl) ?hout ?_
     case hout =>
      rintro⟨a,w,h⟩;exact h
     simp only[List.take_succ_cons,List.take_zero,List.drop_succ_cons,List.drop_zero]
     repeat still_step
     refine wpStill_nil ?_;go_wp2_with fail;refine⟨(((KeepsOthers.drew W).trans (KeepsOthers.drew _)).trans (KeepsOthers.setCell _ _ _)).from _,⟨?_,fun b hb=>?_⟩,?_,fun b hb hne=>?_,?_⟩
     ·simp
     ·exact heap_setCell_other _ _ _ _ (by simp;omega)
     ·rw[HSTEP.out]
      refine(heap_setCell_same _ _ _ _ _ _ H1.out).trans ?_;rw[i4];unfold ew az;simp only[Int.toNat_natCast,HVD.out,HVS.out];rw[if_pos (by unfold aC;exact hfar),show min vs (vd+ym)=(if vd+ym<vs then vd+ym else vs) from by split<;>omega]
     ·exact(heap_setCell_other _ _ _ _ hne).trans (H2.out b hb hne)
     ·exact(H3.out.trans ((Below.refl _ _).drew.drew)).setCell (by exact Nat.le_refl _) _
    ·go_wp2_with fail
     gi_wp2_with fail;refine⟨(KeepsOthers.drew W).from _,⟨?_,fun b hb=>?_⟩,?_,fun b hb hne=>?_,?_⟩
     ·exact Nat.le_refl _
     ·rfl
     ·rw[HSTEP.out]
      unfold ew az;simp only[Int.toNat_natCast,HVD.out];rw[if_neg (by unfold aC;omega)];exact H1.out
     ·exact H2.out b hb hne
     ·exact H3.out.drew
   case done =>
    rintro D xs W hD hxs ⟨h1,h2,h3⟩ hKD;rw[hxs] at h1;obtain⟨nr,hnr⟩:=ag ((bL bs (aq t bs.length)).foldl (ew cur) (aX aC))
    have hnr2:wu (bL bs (aq t bs.length)) (aI (bL bs (aq t bs.length)) tow k)=nr:=by rw[HCUR.out,←hnr];rfl
    rw[hnr] at h1
    have hnl:nr.length=128:=by
     rw[←hnr2];exact(en (N:=(R:Int)) (fun b hb=>HV.out b (gR (fun q hq=>(ee.1 hq).1) hb)) tow (k+1)).1
    have hsz94:(bt nr).size=128:=by rw[aZ,hnl]
    have hlW:=h3.size;have hbrn:Hid (Tryz.prog.builtSlice 189 1 [(0,.agg (bt nr))]=some (bt nr)):=aa (tH hnl);have h9:=(h2 _ (by omega) (by omega)).trans v9;have k9:W.cell? ⟨w1.heap.size+1,0,none⟩=some (.slice (some ⟨g,0,none⟩) (k+1) cp):=cell_of_one h9;obtain⟨i0,hi,hz0,hz1,hz2⟩:=info_parts Bk
    obtain⟨v',wa,hrun,hown',hgrow,hnil,hblk⟩:=run_append_own_at (P:=prog) (W.alloc (Obj.cells (bt nr) 189)) w1.heap.size 185 185 189 i0 _ 128 1024 underlying185 hi hz0 hz1 hz2 rfl (by decide)
     (.slice (some ⟨g,0,none⟩) (k+1) cp) _ _
     (av vown (fun g' e=>by
      simp only[Value.ownBlock,Option.some.injEq] at e;rw[←e]
      exact(Below.heap_alloc _ _ _ (by show g<_;omega)).trans (h2 _ (by show g<_;omega) (by show g≠_;omega))))
     ⟨W.heap.size,0,none⟩ 1 1 (ay nr) (by simp[ay,hnl]) (by
      intro j u hj;rw[show((⟨W.heap.size,0,none⟩:Addr).add j)=⟨W.heap.size,0+j,none⟩ from by unfold Addr.add;split<;>simp_all];rw[cell_of_row _ _ _ _ _ _ (heap_alloc_new W _),Nat.zero_add]
      simpa [bt] using hj) (by intro u hu;simp[ay] at hu;obtain⟨q,_,rfl⟩:=hu;rfl) (by unfold maxLen;omega) (by omega) (by simp;omega)
    obtain⟨g2,cp2,rfl⟩:=ownsRow_succ hown';have H9:=aa ((hgrow.block (w1.heap.size+1) (by simp;omega) (by simp only[Value.ownBlock,ne_eq,Option.some.injEq];omega)).trans ((Below.heap_alloc _ _ _ (by omega)).trans h9));have ca9:wa.cell? ⟨w1.heap.size+1,0,none⟩=some (.slice (some ⟨g,0,none⟩) (k+1) cp):=cell_of_one H9.out;have fa9:wa.frozen? ⟨w1.heap.size+1,0,none⟩=false:=frozen_of_row _ _ _ _ _ H9.out;have H1:=aa h1;have H2:=aa h2;have H3:=aa h3;have HNR:=aa hnr2;have HKD:=aa hKD;have HOWN2:=aa hown';have HGROW:=aa hgrow;have HRUN:=aa hrun;have HBLK:=aa hblk;clear h1 h2 h3 hnr hnr2 hKD hown' hgrow hrun hblk hnil h9
    go_wp2_with (first
     | (refine wpList_load_row rfl 189 _ rfl _ rfl 189 _ _ _ H1.out underlying189 rfl (by rw[hsz94];exact i94.out) ?_)
     | (refine Great.wpList_buildSliceTo rfl 185 189 1 _ rfl _ rfl _ rfl underlying185 _ (by simp[Act.eval];exact hbrn.out) ?_)
     | (at_builtin;refine aN rfl (s:=.tmp 53) (x:=.tmp 55) (t:=185) rfl rfl rfl HRUN.out ?_))
    have hW':∀q,q<W.heap.size→q≠w1.heap.size+1→q≠g→(wa.setCell ⟨w1.heap.size+1,0,none⟩ (.slice (some ⟨g2,0,none⟩) (k+1+1) cp2)).heap[q]?=W.heap[q]?:=fun q h1 h2 h3 =>
     (heap_setCell_other _ _ _ _ h2).trans ((HGROW.out.block q (by simp;omega) (by simp only[Value.ownBlock,ne_eq,Option.some.injEq];omega)).trans (Below.heap_alloc _ _ _ h1))
    have hgd:∀d,wr.heap[g]?=some (.deferred d)→False:=by
     intro d hd
     rcases HOWN.out.2 with ⟨e,_⟩|⟨g',cp',cu,e,hb,hh,_⟩
     ·cases e
     ·cases e;rw[hh] at hd;cases hd
    refine Handed.intro (most-(k+1)) (by omega) (hJ _ _ _ ?_);refine⟨_,_,_,_,_,_,_,_,_,_,_,_,_,_,_,_,_,_,_,_,_,_,_,_,_,_,_,_,_,_,_,_,_,_,_,_,_,_,_,_,_,⟨k+1,by omega,rfl,?_,?_,?_,?_⟩,rfl⟩
    ·go_num
    ·refine aa ⟨?_,⟨g2,cp2,?_,?_⟩,?_⟩
     ·exact(hW' _ (by omega) (by omega) (by omega)).trans ((H2.out _ (by omega) (by omega)).trans (ac b0r (by omega) hst.out.box))
     ·exact heap_setCell_same _ _ _ _ _ _ H9.out
     ·rw[ug,rF,lw,HNR.out]
      refine av HOWN2.out (fun g' e=>heap_setCell_other _ _ _ _ ?_)
      show g'≠w1.heap.size+1
      rcases HBLK.out with e2|e2
      ·rw[e2] at e;simp only[Value.ownBlock,Option.some.injEq] at e;omega
      ·rw[e2] at e;simp only[Option.some.injEq,World.size_alloc] at e;omega
     ·exact((((hst.out.bl.trans (b0r.mono (by omega))).trans (H3.out.mono (by omega))).alloc (by omega) _).grown HGROW.out (by simp;omega) (fun q e=>by simp only[Value.ownBlock,Option.some.injEq] at e;omega)).setCell (by show w.heap.size≤w1.heap.size+1;omega) _
    ·refine aa (Marks.cons hmk.out (fun D' hD' hd=>?_) (by omega) (by omega) ?_)
     ·have hlt':=lt_of_block hd
      exact(hW' _ (by omega) (by intro e;rw[e,HVAR.out] at hd;cases hd) (by intro e;rw[e] at hd;exact hgd _ hd)).trans ((H2.out _ (by omega) (by omega)).trans (ac b0r hlt' hd))
     ·exact(hW' _ (lt_of_block HKD.out) (by omega) (by omega)).trans HKD.out
    ·have:=HGROW.out.size
     simp only[World.size_setCell,World.size_alloc] at this ⊢;omega
  ·obtain⟨g,cp,hvar,hown⟩:=hst.out.var
   have hkm:k=most:=by omega
   subst hkm;have cb9:wr.cell? ⟨w1.heap.size+1,0,none⟩=some (.slice (some ⟨g,0,none⟩) (k+1) cp):=cell_of_one hvar;have HVAR:=aa hvar;have HOWN:=aa hown;clear hvar hown;go_wp2_with fail;refine fJ ds wr hmk.out (fun W' hk'=>?_);refine⟨_,results_tmp results151 _ _ _,g,cp,rfl,hst.out.bl.trans (hk'.below.mono (by omega)),?_⟩;refine av (bF HOWN.out (by omega)) (fun g' e=>?_);simp only[Value.ownBlock,Option.some.injEq] at e;subst e
   rcases HOWN.out.2 with ⟨e,_⟩|⟨g',cp',cu,e,hb,hh,_⟩
   ·cases e
   ·cases e
    exact(hk'.cells _ _ _ _ hh).trans hh.symm
theorem ox {P:Program} {Q:Exit→Act→World→Prop} {K:Act→World→Prop} {a:Act} {w:World} {o:Oper} (l n:Nat) (hnd:∀c,o.op≠.defer c) (hout:¬LetsOut Q)
 (h:o.wp P a w K Q∨(o.asks P a w∧LetsOut Q)):o.wpIn (Fence.wide.inRound l) n P a w K Q:=by
 rcases h with h|h
 ·refine⟨fun _ _=>trivial,?_⟩
  unfold Oper.wp at h;rw[show(Fence.wide.inRound l).round=some l from rfl,Oper.semAt_some l _ _ hnd]
  generalize (execOp a.eval o).run P w=r at h ⊢
  cases r with
  | ok x w' =>
    cases x<;>simp only[Oper.upon] at h<;>try exact h
    ·exact⟨fun hd=>by simp[Fence.wide] at hd,(callsIn_wide.2 h).inRound l⟩
    ·exact⟨fun hd=>by simp[Fence.wide] at hd,fun c cs _=>let ⟨v,w'',r,s⟩:=h c cs;⟨v,w'',r,stepsIn_wide.2 s⟩⟩
  | halt x w'=>cases x<;>simp only[Oper.upon] at h<;>exact h
 ·exact absurd h.2 hout
theorem jZ {P:Program} {ops:Array Oper} {rest:List Oper} {o:Oper} {a:Act} {w:World} {Q:Exit→Act→World→Prop} {l n:Nat} (hg:o.guard=none) (hout:¬LetsOut Q) {w':World} {s x:Operand} {t:TypeId} {vs vx v:Value}
 (hop:o.op=Op.call { callee:=Callee.builtin Builtin.append,args:=#[s,x],argTypes:=#[t,t] }) (hs:a.eval s=vs) (hx:a.eval x=vx) (hrun:(Builtin.append_ #[t,t] o.type #[vs,vx]).run P w=.ok v w')
 (h:wpListIn (Fence.wide.inRound l) n P ops Q rest (a.put o.dst v) w'):wpListIn (Fence.wide.inRound l) n P ops Q (o::rest) a w :=
 wpListIn_plain hg fun K hK=>ox l n (by intro c e;rw[hop] at e;cases e) hout (.inl (by
  unfold Oper.wp;rw[dR hop hs hx hrun]
  exact hK _ _ h))
section
variable {P:Program} {ops:Array Oper} {Q:Exit→Act→World→Prop} {md:Region.Mode} {S:World→Prop} {last:Nat}
def cQ (md:Region.Mode) (ops:Array Oper) (last:Nat):Bool :=
 match ops[last]? with
 | none=>false
 | some o=>(List.range ops.size).all fun k=>k==last||o.after.any fun e=>Region.binds md e&&e.on==k
def bv (P:Program) (md:Region.Mode) (ops:Array Oper) (Q:Exit→Act→World→Prop) (S:World→Prop) (last:Nat):Nat→Array Bool→Act→World→Prop
 | 0,listed,a,w=>Region.ready md ops listed=[]∧Q .normal a w
 | fuel+1,listed,a,w=>(Region.ready md ops listed=[]→Q .normal a w) ∧
   ∀i∈Region.ready md ops listed,wpOp P ops Q i (fun a' w'=>(i=last∨S w')∧bv P md ops Q S last fuel (listed.setIfInBounds i true) a' w') a w
theorem jU:∀(fuel:Nat) (listed:Array Bool) (a:Act) (w:World),bv P md ops Q S last fuel listed a w→wpAny P md ops Q fuel listed a w
 | 0,_,_,_,h=>h
 | fuel+1,_,_,_,h=>⟨h.1,fun i hi=>wpOp_mono (fun a' w' h'=>jU fuel _ a' w' h'.2) (h.2 i hi)⟩
theorem nU (hl:cQ md ops last=true) {listed:Array Bool} (hr:last∈Region.ready md ops listed) {k:Nat} (hk:k≠last) (hks:k<ops.size):listed.getD k false=true:=by
 obtain⟨_,o,ho,hall⟩:=mem_ready.1 hr;unfold cQ at hl;simp only[ho,List.all_eq_true,List.mem_range] at hl;have:=hl k hks;simp only[Bool.or_eq_true,beq_iff_eq] at this
 rcases this with h|h
 ·exact absurd h hk
 ·obtain⟨e,he,hb⟩:=Array.any_eq_true'.1 h
  simp only[Bool.and_eq_true,beq_iff_eq] at hb;rw[←hb.2];exact hall e he hb.1
theorem ru {i:Nat} {oi:Oper} {v:Value} (hl:cQ md ops last=true) (hil:i≠last) (hi:ops[i]?=some oi) (hsel:∀(j:Nat) (o:Oper) cs b,ops[j]?=some o→o.op≠.select cs b)
 (hQ:∀c a w,Q (.panic c) (a.put oi.dst v) w→Q (.panic c) a w) :
 ∀(fuel:Nat) (listed:Array Bool) (a:Act) (w:World),
  (∀j oj,ops[j]?=some oj→j≠i→listed.getD j true=false→(∀e∈oj.after,Region.binds md e=true→e.on≠i)→oi.apart ops oj=true) →
  i∈Region.ready md ops listed→YieldsIf P ops S oi v a→S w →
  bv P md ops Q S last fuel (listed.setIfInBounds i true) (a.put oi.dst v) w→bv P md ops Q S last (fuel+1) listed a w:=by
 have his:i<ops.size:=(Array.getElem?_eq_some_iff.1 hi).1;intro fuel
 induction fuel with
 | zero =>
   intro listed a w _ hr hy hS H;refine⟨fun h=>(by rw[h] at hr;cases hr),fun j hj=>?_⟩
   by_cases hji:j=i
   ·subst hji;exact hy.wpOp hi hS ⟨.inr hS,H⟩
   ·have:=ready_mono hj hji
    rw[H.1] at this;cases this
 | succ fuel ih =>
   intro listed a w hfree hr hy hS H;refine⟨fun h=>(by rw[h] at hr;cases hr),fun j hj=>?_⟩
   by_cases hji:j=i
   ·subst hji;exact hy.wpOp hi hS ⟨.inr hS,H⟩
   ·have hjl:j≠last:=by
     intro e;subst e;have h1:=nU hl hj hil his;have h0:=(mem_ready.1 hr).1
     rcases Nat.lt_or_ge i listed.size with h'|h'
     ·simp[h'] at h0 h1;rw[h0] at h1;cases h1
     ·simp[Array.getElem?_eq_none h'] at h1
    have h1:=H.2 j (ready_mono hj hji);obtain⟨hjun,oj,hoj,hall⟩:=mem_ready.1 hj
    have hnot:∀e∈oj.after,Region.binds md e=true→e.on≠i:=fun e he hb heq=>by
     have h1:=hall e he hb;have h0:=(mem_ready.1 hr).1;rw[heq] at h1
     rcases Nat.lt_or_ge i listed.size with h'|h'
     ·simp[h'] at h0 h1;rw[h0] at h1;cases h1
     ·simp[Array.getElem?_eq_none h'] at h1
    have h2:=wpOp_putIf hoj (hfree j oj hoj hji hjun hnot) (fun cs b=>hsel i oi cs b hi) (fun cs b=>hsel j oj cs b hoj) hQ hy h1
    have hfree':∀k ok,ops[k]?=some ok→k≠i→(listed.setIfInBounds j true).getD k true=false →
     (∀e∈ok.after,Region.binds md e=true→e.on≠i)→oi.apart ops ok=true:=fun k ok hk hki hun hno=>by
     refine hfree k ok hk hki ?_ hno
     by_cases hjk:j=k
     ·subst hjk;exact hjun
     ·rw[getD_set_ne true hjk] at hun;exact hun
    refine wpOp_mono (fun a' w' h3=>?_) h2;have hSw:S w':=h3.2.1.resolve_left hjl;refine⟨.inr hSw,ih (listed.setIfInBounds j true) a' w' hfree' (ready_mono hr (Ne.symm hji)) h3.1 hSw ?_⟩;rw[Array.setIfInBounds_comm _ _ hji];exact h3.2.2
theorem bC {i:Nat} {oi:Oper} {v:Value} {fuel:Nat} {listed:Array Bool} {a:Act} {w:World} (hl:cQ md ops last=true) (hil:i≠last) (hi:ops[i]?=some oi)
 (hs:Region.noSelect ops=true) (hf:Region.free md ops listed i=true) (hr:(Region.ready md ops listed).contains i=true)
 (hQ:∀c a w,Q (.panic c) (a.put oi.dst v) w→Q (.panic c) a w) (hy:YieldsIf P ops S oi v a) (hS:S w)
 (h:bv P md ops Q S last fuel (listed.setIfInBounds i true) (a.put oi.dst v) w):bv P md ops Q S last (fuel+1) listed a w :=
 ru hl hil hi (Region.noSelect_spec hs) hQ fuel listed a w (Region.free_spec hi hf) (by simpa using hr) hy hS h
theorem jM {fuel:Nat} {listed:Array Bool} {a:Act} {w:World} (i:Nat) (hr:Region.ready md ops listed=[i])
 (h:wpOp P ops Q i (fun a' w'=>(i=last∨S w')∧bv P md ops Q S last fuel (listed.setIfInBounds i true) a' w') a w):bv P md ops Q S last (fuel+1) listed a w :=
 ⟨fun h0=>(by rw[hr] at h0;cases h0),fun j hj=>(by rw[hr,List.mem_singleton] at hj;rw[hj];exact h)⟩
theorem aw {listed:Array Bool} {a:Act} {w:World} (hr:Region.ready md ops listed=[]) (h:Q .normal a w):∀fuel,bv P md ops Q S last fuel listed a w
 | 0=>⟨hr,h⟩
 | _+1=>⟨fun _=>h,by rw[hr];simp⟩
theorem jt {id n l:Nat} {a:Act} {w:World} (hm:P.follows .mixedOrders=true) (hnd:nh ops=true) (hout:¬LetsOut Q)
 (h:bv P .any ops Q S last ops.size (Array.replicate ops.size false) a w.drew):(Code.region id ops true).wpIn (Fence.wide.inRound l) n P Q a w :=
 wpIn_region_any hm (dO l n (im hnd) hout _ _ _ _ (jU _ _ _ _ h))
theorem aJ {id:Nat} {a:Act} {w:World} (hm:P.follows .mixedOrders=true)
 (h:bv P .any ops Q S last ops.size (Array.replicate ops.size false) a w.drew):(Code.region id ops true).wp P Q a w :=
 wp_region_any hm (jU _ _ _ _ h)
end
end Go.Proofs.YtkhemfnlflbniaaGreatDoor
