/- Merged text 7 of the base: PlM, PlP, PlQ, Sm, Yd, Y8, Fd, Fe. No conditions beyond those stated. -/
import Derived.Test.YtkhemfnlflbniaaGreatDoorB05
import Derived.Test.YtkhemfnlflbniaaGreatDoorB03
import Derived.Test.YtkhemfnlflbniaaGreatDoorB06
import Derived.StillTailTactics
import Derived.Deep.RegionHeld3
import Derived.Deep.OwnRows
import Derived.Test.YtkhemfnlflbniaaGreatDoorB04
import Derived.Test.YtkhemfnlflbniaaGreatDoorB02
import Derived.IntWalk
set_option maxRecDepth 100000
set_option maxHeartbeats 2000000
namespace Go.Proofs.YtkhemfnlflbniaaGreatDoor
theorem oQ {α:Type} {p q:α→Bool}:∀{l:List α},(∀x∈l,p x=q x)→l.find? p=l.find? q
 | [],_=>rfl
 | x::l,h=>by
   simp only[List.find?_cons,h x (List.mem_cons_self ..)];rw[oQ (fun y hy=>h y (List.mem_cons_of_mem _ hy))]
def nA (bs:List Bd) (f:Nat→List Fr) (k:Nat) (at_ left:Int) (i:Nat):Bool :=
 (bs.getD i cn).src==at_&&((f k).getD (bs.getD i cn).dst.toNat o6).ok&&decide ((bs.getD i cn).most+((f k).getD (bs.getD i cn).dst.toNat o6).s≤left)
def iv (bs:List Bd) (f:Nat→List Fr) (ks:List Nat):Nat→Int→Int→List Int→List Int
 | 0,_,_,acc=>acc
 | k+1,at_,left,acc =>
   match ks.find? (nA bs f k at_ left) with
   | none=>iv bs f ks k at_ left acc
   | some i=>iv bs f ks k (bs.getD i cn).dst (left-(bs.getD i cn).most) (acc++[(i:Int)])
theorem jc {bs:List Bd} {f:Nat→List Fr} {ks:List Nat} {gd:Int→Int→Int→Bool} {lim:Int} (P:Nat→Int→Int→Prop)
 (h1:∀k at_ sum,P (k+1) at_ sum→∀i∈ks,fe bs gd k at_ sum i=nA bs f k at_ (lim-sum) i)
 (h2:∀k at_ sum,P (k+1) at_ sum→∃i∈ks,fe bs gd k at_ sum i=true)
 (h3:∀k at_ sum i,P (k+1) at_ sum→i∈ks→fe bs gd k at_ sum i=true→P k (bs.getD i cn).dst (sum+(bs.getD i cn).most)) :
 ∀(many:Nat) (at_ sum:Int) (acc:List Int),P many at_ sum→bM bs ks gd many at_ sum acc=some (iv bs f ks many at_ (lim-sum) acc)
 | 0,_,_,_,_=>rfl
 | k+1,at_,sum,acc,hP=>by
   simp only[bM,iv];rw[oQ (h1 k at_ sum hP)]
   cases hf:ks.find? (nA bs f k at_ (lim-sum)) with
   | none =>
     obtain⟨i,hi,hx⟩:=h2 k at_ sum hP;rw[h1 k at_ sum hP i hi] at hx;exact absurd hx (List.find?_eq_none.1 hf i hi)
   | some i =>
     have hi:=List.mem_of_find?_eq_some hf;have hx:=List.find?_some hf;have:=jc (lim:=lim) P h1 h2 h3 k (bs.getD i cn).dst (sum+(bs.getD i cn).most) (acc++[(i:Int)]) (h3 k at_ sum i hP hi (by rw[h1 k at_ sum hP i hi];exact hx));simp only;rw[this,show lim-sum-(bs.getD i cn).most=lim-(sum+(bs.getD i cn).most) by omega]
theorem qf {bs:List Bd} {ks:List Nat} {x:Bd} (h:x∈bL bs ks):∃i∈ks,bs.getD i cn=x:=by
 simp only[bL,List.mem_map] at h;exact h
theorem tU {bs:List Bd} {ks:List Nat} {i:Nat} (h:i∈ks):bs.getD i cn∈bL bs ks:=by
 simp only[bL,List.mem_map];exact⟨i,h,rfl⟩
theorem lN {N:Nat} {l:List Bd} {tow k:Nat} (hN:N≤128) (hto:tow<N) (hv:au N l) (hk:k≤129) {v:Nat} (hvN:v<N) {p:List Bd} (h1:Walk v tow p) (h2:Over l p) (h3:p.length=k):(aI l tow k).getD v 0<aC∧(aI l tow k).getD v 0≤aU p:=by
 rcases jf hN hto hv k hk v hvN with ⟨a,b⟩|⟨_,b⟩
 ·exact⟨a,b.2 p h1 h2 h3⟩
 ·exact absurd h3 (b p h1 h2)
theorem iV {N:Nat} {l:List Bd} {tow k:Nat} (hN:N≤128) (hto:tow<N) (hv:au N l) (hk:k≤129) {v:Nat} (hvN:v<N) (h:(aI l tow k).getD v 0<aC):∃p,Walk v tow p∧Over l p∧p.length=k∧aU p=(aI l tow k).getD v 0:=by
 rcases jf hN hto hv k hk v hvN with ⟨a,b⟩|⟨a,_⟩
 ·obtain⟨p,p1,p2,p3,p4⟩:=b.1
  exact⟨p,p1,p2,p3,p4⟩
 ·omega
theorem lO {N:Nat} {l:List Bd} {tow k:Nat} (hN:N≤128) (hto:tow<N) (hv:au N l) (hk:k≤129) {v:Nat} (hvN:v<N) :
 ((aI l tow k).getD v 0<aC∧(cC N l tow k).getD v o6=⟨(aI l tow k).getD v 0,true⟩)∨(¬(aI l tow k).getD v 0<aC∧((cC N l tow k).getD v o6).ok=false):=by
 rcases(jE hN hto hv k hk).2 v hvN with h|⟨a,b⟩
 ·exact .inl h
 ·exact .inr ⟨by omega,b⟩
theorem AO {N:Nat} {l:List Bd} {tow k:Nat} (hN:N≤128) (hto:tow<N) (hv:au N l) (hk:k≤129) {v:Nat} (hvN:v<N) (c:Int→Bool) :
 (decide ((aI l tow k).getD v 0<1125899906842624)&&c ((aI l tow k).getD v 0))=(((cC N l tow k).getD v o6).ok&&c ((cC N l tow k).getD v o6).s):=by
 rcases lO hN hto hv hk hvN with ⟨a,b⟩|⟨a,b⟩
 ·unfold aC at a;rw[b,decide_eq_true a]
 ·unfold aC at a;rw[b,decide_eq_false a];rfl
theorem o8 {N:Nat} {bs:List Bd} {t:List Int} (HO:NetOk N bs t) (ht:aG N bs=some t) {a b:Nat} (ha:a<N) (hb:b<N) (hd:aF N bs a b<aC) {m:Nat} (hm:m≤N) (hr:(aI bs b m).getD a 0=aF N bs a b) :
 bM bs (aq iy bs.length) (dK (aK bs b N) (aF N bs a b)) m a 0 []=some (iv bs (cC N bs b) (aq iy bs.length) m a (aF N bs a b) []):=by
 have hN:=HO.n1;have hv:=HO.valid;obtain⟨d,hdd⟩:=ag (aF N bs a b)
 have hlow:∀p,Walk a b p→Over bs p→d≤aU p:=by
  have h2:=(HO.row ha).2 b hb
  have e:(dW N t bs a).getD b 0=d:=by rw[←hdd];unfold aF;rw[eB ht]
  rw[e] at h2
  rcases h2 with ⟨_,q⟩|⟨q,_⟩
  ·exact q.2
  ·omega
 rw[hdd] at hd hr ⊢
 have hmem:∀i∈aq iy bs.length,bs.getD i cn∈bs:=fun i hi=>by have:=tU (bs:=bs) hi;rwa [i9] at this
 let P:Nat→Int→Int→Prop:=fun k at_ sum=>k≤N∧(∃p,Walk a at_ p∧Over bs p∧aU p=sum)∧∃q,Walk at_ b q∧Over bs q∧q.length=k∧sum+aU q=d
 have hget:∀k,k≤N→(aK bs b N).getD k []=aI bs b k:=fun k hk=>bP bs b N hk
 have fit:∀k at_ sum,P (k+1) at_ sum→∀i∈aq iy bs.length,fe bs (dK (aK bs b N) d) k at_ sum i=nA bs (cC N bs b) k at_ (d-sum) i:=by
  rintro k at_ sum ⟨hk,⟨p,p1,p2,p3⟩,_⟩ i hi;obtain⟨x,hx⟩:=ag (bs.getD i cn);have hxm:=hmem i hi;unfold fe nA dK;rw[hx] at hxm ⊢;obtain⟨v1,v2,v3,v4,v5,v6⟩:=hv x hxm
  by_cases hs:x.src=at_
  ·have e1:(x.src==at_)=true:=by simpa using hs
   rw[e1,Bool.true_and,Bool.true_and,Int.toNat_natCast,hget k (by omega)];unfold az;rw[AO hN hb hv (by omega) (by omega:x.dst.toNat<N) (fun s=>sum+x.most+s==d)]
   rcases lO hN hb hv (k:=k) (by omega) (by omega:x.dst.toNat<N) with ⟨r1,r2⟩|⟨_,r2⟩
   ·rw[r2]
    simp only[Bool.true_and];obtain⟨q,q1,q2,q3,q4⟩:=iV hN hb hv (by omega) (by omega:x.dst.toNat<N) r1;have hdst:((x.dst.toNat:Nat):Int)=x.dst:=Int.toNat_of_nonneg v3;rw[hdst] at q1;have:=hlow (p++x::q) (p1.more x hs q1) (p2.append (Over.cons hxm q2));rw[aT] at this;simp only[aU] at this;rw[Bool.eq_iff_iff];simp only[beq_iff_eq,decide_eq_true_eq];omega
   ·rw[r2];rfl
  ·have e1:(x.src==at_)=false:=by simpa using hs
   rw[e1];rfl
 have one:∀k at_ sum x q,k+1≤N→x∈bs→x.src=at_→(∃p,Walk a at_ p∧Over bs p∧aU p=sum)→Walk x.dst b q→Over bs q→q.length=k→sum+x.most+aU q=d →
  (aI bs b k).getD x.dst.toNat 0<aC∧sum+x.most+(aI bs b k).getD x.dst.toNat 0=d:=by
  rintro k at_ sum x q hk hx hs ⟨p,p1,p2,p3⟩ q1 q2 q3 q4;obtain⟨v1,v2,v3,v4,v5,v6⟩:=hv x hx;have hdst:((x.dst.toNat:Nat):Int)=x.dst:=Int.toNat_of_nonneg v3;have hr:=lN hN hb hv (k:=k) (by omega) (by omega:x.dst.toNat<N) (p:=q) (by rw[hdst];exact q1) q2 q3;obtain⟨r,r1,r2,r3,r4⟩:=iV hN hb hv (by omega) (by omega:x.dst.toNat<N) hr.1;rw[hdst] at r1;have:=hlow (p++x::r) (p1.more x hs r1) (p2.append (Over.cons hx r2));rw[aT] at this;simp only[aU] at this;exact⟨hr.1,by omega⟩
 have ex:∀k at_ sum,P (k+1) at_ sum→∃i∈aq iy bs.length,fe bs (dK (aK bs b N) d) k at_ sum i=true:=by
  rintro k at_ sum ⟨hk,hp,q,q1,q2,q3,q4⟩
  cases q with
  | nil=>simp at q3
  | cons x q =>
    obtain⟨i,hi,hx⟩:=qf (bs:=bs) (ks:=aq iy bs.length) (x:=x) (by rw[i9];exact q2.head);refine⟨i,hi,?_⟩;simp only[aU] at q4;have h:=one k at_ sum x q hk q2.head q1.1 hp q1.2 q2.tail (by simpa using q3) (by omega);unfold fe dK az;rw[hx,Int.toNat_natCast,hget k (by omega)];have h1:((aI bs b k).getD x.dst.toNat 0<1125899906842624):=h.1
    rw[beq_iff_eq.2 q1.1,decide_eq_true h1,beq_iff_eq.2 h.2];rfl
 have st:∀k at_ sum i,P (k+1) at_ sum→i∈aq iy bs.length→fe bs (dK (aK bs b N) d) k at_ sum i=true→P k (bs.getD i cn).dst (sum+(bs.getD i cn).most):=by
  rintro k at_ sum i ⟨hk,⟨p,p1,p2,p3⟩,_⟩ hi hf;obtain⟨x,hx⟩:=ag (bs.getD i cn);have hxm:=hmem i hi;unfold fe dK az at hf;rw[hx] at hxm hf ⊢;obtain⟨v1,v2,v3,v4,v5,v6⟩:=hv x hxm;rw[Int.toNat_natCast,hget k (by omega)] at hf;simp only[Bool.and_eq_true,beq_iff_eq,decide_eq_true_eq] at hf;obtain⟨f1,f2,f3⟩:=hf;have hdst:((x.dst.toNat:Nat):Int)=x.dst:=Int.toNat_of_nonneg v3;obtain⟨r,r1,r2,r3,r4⟩:=iV hN hb hv (k:=k) (by omega) (by omega:x.dst.toNat<N) f2;rw[hdst] at r1;refine⟨by omega,⟨p++[x],p1.snoc x f1,p2.append (Over.one hxm),by rw[aT];simp[aU];omega⟩,r,r1,r2,r3,by omega⟩
 have hP:P m a 0:=by
  obtain⟨r,r1,r2,r3,r4⟩:=iV hN hb hv (k:=m) (by omega) ha (by omega);exact⟨hm,⟨[],rfl,Over.nil,rfl⟩,r,r1,r2,r3,by omega⟩
 have:=jc (lim:=d) P fit ex st m a 0 [] hP;rw[this,Int.sub_zero]
def NegK (bs:List Bd) (a:Int) (k:Nat):Prop:=∃p,Walk a a p∧Over bs p∧p.length=k∧aU p<0
theorem NegK.pos {bs:List Bd} {a:Int} {k:Nat} (h:NegK bs a k):1≤k:=by
 obtain⟨p,_,_,p3,p4⟩:=h
 cases p with
 | nil=>simp[aU] at p4
 | cons x p=>simp at p3;omega
theorem NegK.range {N:Nat} {bs:List Bd} (hv:au N bs) {a:Int} {k:Nat} (h:NegK bs a k):0≤a∧a<N:=by
 obtain⟨p,p1,p2,_,p4⟩:=h
 cases p with
 | nil=>simp[aU] at p4
 | cons x p =>
   have:=hv x p2.head;have e:=p1.1;exact⟨e▸this.1,e▸this.2.1⟩
theorem wz {N:Nat} {bs:List Bd} (hN:N≤128) (hv:au N bs) {a k:Nat} (ha:a<N) (hk:k≤129):(aI bs a k).getD a 0<0↔NegK bs a k:=by
 constructor
 ·intro h
  obtain⟨p,p1,p2,p3,p4⟩:=iV hN ha hv hk ha (by unfold aC;omega);exact⟨p,p1,p2,p3,by omega⟩
 ·rintro⟨p,p1,p2,p3,p4⟩
  have:=lN hN ha hv hk ha p1 p2 p3;omega
theorem kP {α:Type} {p:α→Bool} {d:α}:∀(l:List α) (j:Nat),j<l.length→(bk p l<0∨(j:Int)<bk p l)→p (l.getD j d)=false
 | [],j,h,_=>by simp at h
 | x :: l, j, hj, h => by
   cases hx:p x with
   | true=>rw[bk,if_pos hx] at h;omega
   | false =>
     cases j with
     | zero=>simpa using hx
     | succ j =>
       rw[bk,if_neg (by rw[hx];simp)] at h
       have:=kP (d:=d) l j (by simpa using hj) (by
        by_cases hn:bk p l<0
        ·exact .inl hn
        ·rw[if_neg hn] at h;right;omega)
       simpa using this
theorem jR {N:Nat} {bs:List Bd} (hN:N≤128) (hv:au N bs) {many a j:Nat} (ha:a<N) (hj:j≤min many N) (h:dU bs N many a<0∨(j:Int)<dU bs N many a):¬NegK bs a j:=by
 have:=kP (d:=[]) (p:=fun r:List Int=>decide (r.getD a 0<0)) (aK bs a (min many N)) j (by rw[ct];omega) h;rw[bP _ _ _ hj] at this;rw[←wz hN hv ha (by omega)];simpa using this
theorem uN {N:Nat} {bs:List Bd} (hN:N≤128) (hv:au N bs) {many a:Nat} (ha:a<N) (h:0≤dU bs N many a):NegK bs a (dU bs N many a).toNat:=by
 have h1:=lV (d:=[]) (p:=fun r:List Int=>decide (r.getD a 0<0)) (aK bs a (min many N)) h;have h2:bk (fun r:List Int=>decide (r.getD a 0<0)) (aK bs a (min many N))=dU bs N many a:=rfl;have h3:=sk bs N many a;rw[h2,bP _ _ _ (by omega)] at h1;rw[←wz hN hv ha (by omega)];simpa using h1
theorem pK {N:Nat} {bs:List Bd} (hN:N≤128) (hv:au N bs):∀k,k≤N →
 (∀a j:Nat,a<k→j<(bN bs N k).1→j≤N→¬NegK bs a j)∧(∀a:Nat,a<N→((bN bs N k).2.getD a false=true↔a<k∧(bN bs N k).1≤N∧NegK bs a (bN bs N k).1)) ∧
 ((bN bs N k).1=N+1∨∃a:Nat,a<k∧NegK bs a (bN bs N k).1)
 | 0,_=>by
   refine⟨fun a j h=>by omega,fun a ha=>?_,.inl rfl⟩;simp only[bN,List.range_zero,List.foldl_nil];simp[List.getD_eq_getElem?_getD,ha]
 | k + 1, hk => by
   obtain⟨h1,h2,h3⟩:=pK hN hv k (by omega);obtain⟨b1,b2,b3⟩:=oC bs N k (by omega) hN;rw[jX];obtain⟨st,hst⟩:=ag (bN bs N k);rw[hst] at h1 h2 h3 b1 b2 b3 ⊢;unfold tV
   by_cases hc:dU bs N st.1 k<0
   ·rw[if_pos hc]
    refine⟨fun a j ha hj hjN=>?_,fun a ha=>?_,?_⟩
    ·by_cases e:a=k
     ·subst e;exact jR hN hv (by omega) (by omega) (.inl hc)
     ·exact h1 a j (by omega) hj hjN
    ·rw[h2 a ha]
     constructor
     ·rintro⟨q1,q2,q3⟩;exact⟨by omega,q2,q3⟩
     ·rintro⟨q1,q2,q3⟩
      refine⟨?_,q2,q3⟩
      by_cases e:a=k
      ·subst e;exact absurd q3 (jR hN hv (by omega) (by omega) (.inl hc))
      ·omega
    ·rcases h3 with e|⟨a,ha,e⟩
     ·exact .inl e
     ·exact .inr ⟨a,by omega,e⟩
   ·rw[if_neg hc]
    obtain⟨c,hcc⟩:∃c:Nat,dU bs N st.1 k=c:=Int.eq_ofNat_of_zero_le (by omega);have hneg:=uN hN hv (many:=st.1) (a:=k) (by omega) (by omega);have hbd:=sk bs N st.1 k
    have hnone:∀j:Nat,j<c→¬NegK bs k j:=fun j hj=>jR hN hv (many:=st.1) (by omega) (by omega) (.inr (by rw[hcc];omega))
    rw[hcc,Int.toNat_natCast] at hneg ⊢;rw[hcc] at hbd
    by_cases hlt:c<st.1
    ·rw[if_pos hlt]
     refine⟨fun a j ha hj hjN=>?_,fun a ha=>?_,.inr ⟨k,by omega,hneg⟩⟩
     ·by_cases e:a=k
      ·subst e;exact hnone j hj
      ·exact h1 a j (by omega) (by simp only at hj;omega) hjN
     ·simp only
      rw[g8]
      by_cases e:a=k
      ·subst e
       rw[if_pos ⟨rfl,by simpa using ha⟩];exact⟨fun _=>⟨by omega,by omega,hneg⟩,fun _=>rfl⟩
      ·rw[if_neg (fun q=>e q.1)]
       constructor
       ·intro q;simp[List.getD_eq_getElem?_getD,ha] at q
       ·rintro⟨q1,q2,q3⟩
        exact absurd q3 (h1 a c (by omega) hlt (by omega))
    ·rw[if_neg hlt]
     have hec:c=st.1:=by omega
     subst hec;refine⟨fun a j ha hj hjN=>?_,fun a ha=>?_,.inr ⟨k,by omega,hneg⟩⟩
     ·by_cases e:a=k
      ·subst e;exact hnone j hj
      ·exact h1 a j (by omega) hj hjN
     ·simp only
      rw[g8]
      by_cases e:a=k
      ·subst e
       rw[if_pos ⟨rfl,by omega⟩];exact⟨fun _=>⟨by omega,by omega,hneg⟩,fun _=>rfl⟩
      ·rw[if_neg (fun q=>e q.1),h2 a ha]
       constructor
       ·rintro⟨q1,q2,q3⟩;exact⟨by omega,q2,q3⟩
       ·rintro⟨q1,q2,q3⟩;exact⟨by omega,q2,q3⟩
def lA (bs:List Bd) (M:Nat):Prop:=(∃a,NegK bs a M)∧∀a k,NegK bs a k→M≤k
theorem nM {Q:Nat→Prop}:∀(n k:Nat),k≤n→Q k→∃m,Q m∧∀j,Q j→m≤j
 | 0, k, hk, h => ⟨0, by have : k = 0 := by omega
                         subst this;exact h,fun j _=>Nat.zero_le _⟩
 | n+1,k,hk,h=>by
   by_cases hx:∃j,j≤n∧Q j
   ·obtain⟨j,hj,hq⟩:=hx
    exact nM n j hj hq
   ·have e:k=n+1:=by
     by_cases hk2:k≤n
     ·exact absurd ⟨k,hk2,h⟩ hx
     ·omega
    subst e
    exact⟨n+1,h,fun j hj=>by
     by_cases hj2:j≤n
     ·exact absurd ⟨j,hj2,hj⟩ hx
     ·omega⟩
theorem xc {N:Nat} {bs:List Bd} (hv:au N bs) (hns:∀b∈bs,b.src≠b.dst) (h:¬i7 bs):∃M,lA bs M∧2≤M∧M≤N:=by
 have hex:∃k,∃a,NegK bs a k:=by
  apply Classical.byContradiction
  intro hno
  apply h
  intro a l hw ho
  apply Classical.byContradiction
  intro hlt;exact hno ⟨l.length,a,l,hw,ho,rfl,by omega⟩
 obtain⟨k,hk⟩:=hex;obtain⟨M,hM,hl⟩:=nM (Q:=fun k=>∃a,NegK bs a k) k k (Nat.le_refl _) hk;refine⟨M,⟨hM,fun a k h=>hl k ⟨a,h⟩⟩,?_,?_⟩
 ·obtain⟨a,hn⟩:=hM
  have h1:=hn.pos
  by_cases e:M=1
  ·subst e
   obtain⟨p,p1,p2,p3,p4⟩:=hn
   match p,p3 with
   | [x],_ =>
     have h1:x.src=a:=p1.1;have h2:x.dst=a:=p1.2;exact absurd (h1.trans h2.symm) (hns x p2.head)
  ·omega
 ·obtain⟨a,hn⟩:=hM
  have hr:=hn.range hv;obtain⟨p,p1,p2,p3,p4⟩:=hn
  by_cases hle:M≤N
  ·exact hle
  ·obtain⟨u,c,q,x,e,hc,h2,h3,h4⟩:=jV hv hr.1 hr.2 (p1:Walk a a p) p2 (by omega)
   have hx:∃u c q x,p=u++c++q∧c≠[]∧Walk a x u∧Walk x x c∧Walk x a q∧c.length<p.length:=by
    obtain⟨u,c,q,x,e,hc,h2,h3,h4⟩:=jV hv hr.1 hr.2 (eh N (by omega:N≤p.length) p1).1 (fun y hy=>p2 y (List.mem_of_mem_take hy)) (by simp;omega);refine⟨u,c,q++p.drop N,x,?_,hc,h2,h3,h4.trans (eh N (by omega:N≤p.length) p1).2,?_⟩
    ·rw[←List.append_assoc,←e,List.take_append_drop]
    ·have:=congrArg List.length e
     simp at this;omega
   obtain⟨u,c,q,x,e,hc,h2,h3,h4,hlen⟩:=hx;subst e;have hcl:0<c.length:=List.length_pos_iff.2 hc;rw[aT,aT] at p4
   by_cases hcn:aU c<0
   ·have:=hl c.length ⟨x,c,h3,p2.left.right,rfl,hcn⟩
    omega
   ·have:=hl (u++q).length ⟨a,u++q,h2.trans h4,p2.left.left.append p2.right,rfl,by rw[aT];omega⟩
    simp at this p3;omega
theorem mz {N:Nat} {bs:List Bd} (hN:N≤128) (hv:au N bs) {M:Nat} (hM:lA bs M) (hMN:M≤N):(bN bs N N).1=M∧∀a:Nat,a<N→((bN bs N N).2.getD a false=true↔NegK bs a M):=by
 obtain⟨h1,h2,h3⟩:=pK hN hv N (Nat.le_refl _);obtain⟨⟨a,ha⟩,hl⟩:=hM;have hr:=ha.range hv
 have e1:¬M<(bN bs N N).1:=fun hlt=>h1 a.toNat M (by omega) hlt hMN (by rw[Int.toNat_of_nonneg hr.1];exact ha)
 have e:(bN bs N N).1=M:=by
  rcases h3 with e|⟨b,hb,hn⟩
  ·omega
  ·have:=hl b _ hn;omega
 refine⟨e,fun b hb=>?_⟩;rw[h2 b hb,e];exact⟨fun q=>q.2.2,fun q=>⟨hb,hMN,q⟩⟩
theorem qM (i n:Nat) (hi:i<n):aq (bG i) n=(List.range (n-(i+1))).map (i+1+·):=by
 unfold aq bG;rw[show n=(i+1)+(n-(i+1)) by omega,List.range_add,List.filter_append];rw[List.filter_eq_nil_iff.2 (by intro a ha;have:=List.mem_range.1 ha;simp;omega),List.nil_append,List.filter_eq_self.2 (by intro a ha;simp only[List.mem_map,List.mem_range] at ha;obtain⟨b,_,rfl⟩:=ha;simp;omega)];rw[show i+1+(n-(i+1))-(i+1)=n-(i+1) by omega]
theorem jI {bs:List Bd} {i:Nat} (hi:i<bs.length):bL bs (aq (bG i) bs.length)=bs.drop (i+1):=by
 rw[qM i _ hi]
 apply List.ext_getElem?
 intro j;simp only[bL,List.map_map,List.getElem?_map,List.getElem?_drop]
 by_cases h:j<bs.length-(i+1)
 ·rw[List.getElem?_range h,List.getElem?_eq_getElem (by omega:i+1+j<bs.length)]
  simp[List.getD_eq_getElem?_getD,show i+1+j<bs.length by omega]
 ·rw[List.getElem?_eq_none (by simp;omega),List.getElem?_eq_none (by omega)];rfl
def NegFrom (bs:List Bd) (i k:Nat):Prop:=∃p,Walk (bs.getD i cn).dst (bs.getD i cn).src p∧Over (bs.drop (i+1)) p∧p.length=k∧(bs.getD i cn).most+aU p<0
theorem NegFrom.neg {bs:List Bd} {i k:Nat} (hi:i<bs.length) (h:NegFrom bs i k):NegK bs (bs.getD i cn).src (k+1)∧NegK bs (bs.getD i cn).dst (k+1):=by
 obtain⟨p,p1,p2,p3,p4⟩:=h
 have hm:bs.getD i cn∈bs:=by rw[List.getD_eq_getElem?_getD,List.getElem?_eq_getElem hi];exact List.getElem_mem hi
 have ho:Over bs p:=fun x hx=>List.mem_of_mem_drop (p2 x hx)
 refine⟨⟨_::p,⟨rfl,p1⟩,fun x hx=>?_,by simp[p3],p4⟩,⟨p++[bs.getD i cn],p1.snoc _ rfl,ho.append (Over.one hm),by simp[p3],by rw[aT];simp only[aU];omega⟩⟩
 rcases List.mem_cons.1 hx with e|e
 ·exact e▸hm
 ·exact ho x e
theorem jO {N:Int} {bs:List Bd} (hv:au N bs) (i:Nat):au N (bs.drop i):=fun x hx=>hv x (List.mem_of_mem_drop hx)
theorem mC {N:Nat} {bs:List Bd} (hN:N≤128) (hv:au N bs) {M:Nat} (hM:lA bs M) (h2:2≤M) (hMN:M≤N) {i:Nat} (hi:i<bs.length):cM bs (bN bs N N) i=true↔NegFrom bs i (M-1):=by
 obtain⟨e1,e2⟩:=mz hN hv hM hMN
 have hm:bs.getD i cn∈bs:=by rw[List.getD_eq_getElem?_getD,List.getElem?_eq_getElem hi];exact List.getElem_mem hi
 obtain⟨v1,v2,v3,v4,_,_⟩:=hv _ hm;have hs:(((bs.getD i cn).src.toNat:Nat):Int)=(bs.getD i cn).src:=Int.toNat_of_nonneg v1;have hd:(((bs.getD i cn).dst.toNat:Nat):Int)=(bs.getD i cn).dst:=Int.toNat_of_nonneg v3;unfold cM qd dT;rw[e1,jI hi,bP _ _ _ (Nat.le_refl _)];simp only[Bool.and_eq_true,decide_eq_true_eq];rw[e2 _ (by omega),e2 _ (by omega),hs,hd];have hvd:=jO hv (i+1)
 constructor
 ·rintro⟨_,k1,k2⟩
  obtain⟨p,p1,p2,p3,p4⟩:=iV hN (by omega:(bs.getD i cn).src.toNat<N) hvd (by omega) (by omega:(bs.getD i cn).dst.toNat<N) k1;rw[hs,hd] at p1;exact⟨p,p1,p2,p3,by omega⟩
 ·intro h
  obtain⟨n1,n2⟩:=h.neg hi;obtain⟨p,p1,p2,p3,p4⟩:=h;rw[show M-1+1=M by omega] at n1 n2;have:=lN hN (by omega:(bs.getD i cn).src.toNat<N) hvd (by omega) (by omega:(bs.getD i cn).dst.toNat<N) (p:=p) (by rw[hs,hd];exact p1) p2 p3;exact⟨⟨n1,n2⟩,this.1,by omega⟩
theorem uP {N:Nat} {bs:List Bd} (_hv:au N bs) {M:Nat} (hM:lA bs M) (h2:2≤M):∃i,i<bs.length∧NegFrom bs i (M-1):=by
 obtain⟨⟨a,p,p1,p2,p3,p4⟩,hl⟩:=hM
 have hex:∃j:Nat,∃x∈p,bs[j]?=some x:=by
  cases p with
  | nil=>simp[aU] at p4
  | cons x p =>
    obtain⟨j,hj,e⟩:=List.getElem_of_mem p2.head;exact⟨j,x,List.mem_cons_self ..,by rw[List.getElem?_eq_getElem hj,e]⟩
 obtain⟨j0,hj0⟩:=hex;obtain⟨i,⟨x,hx,hi⟩,hmin⟩:=nM (Q:=fun j:Nat=>∃x∈p,bs[j]?=some x) j0 j0 (Nat.le_refl _) hj0;obtain⟨hil,_⟩:=List.getElem?_eq_some_iff.1 hi
 have hgd:bs.getD i cn=x:=by rw[List.getD_eq_getElem?_getD,hi];rfl
 obtain⟨u,q,e⟩:=List.append_of_mem hx;subst e;obtain⟨y,y1,y2⟩:=dH.1 p1
 have hw:Walk x.dst x.src (q++u):=by
  have:=y2.1;subst this;exact y2.2.trans y1
 have hsum:x.most+aU (q++u)<0:=by
  rw[aT] at p4 ⊢;simp only[aU] at p4;omega
 refine⟨i,hil,q++u,by rw[hgd];exact hw,fun z hz=>?_,by simp at p3 ⊢;omega,by rw[hgd];exact hsum⟩
 have hzp:z∈u++x::q:=by
  rcases List.mem_append.1 hz with h|h
  ·exact List.mem_append_right _ (List.mem_cons_of_mem _ h)
  ·exact List.mem_append_left _ h
 have hzx:z≠x:=by
  rintro rfl;obtain⟨u2,q2,e⟩:=List.append_of_mem hz;rw[e] at hw hsum;obtain⟨y',z1,z2⟩:=dH.1 hw;have hy':=z2.1;subst hy'
  have ho:Over bs (q++u):=fun w hw'=>p2 w (by
   rcases List.mem_append.1 hw' with h|h
   ·exact List.mem_append_right _ (List.mem_cons_of_mem _ h)
   ·exact List.mem_append_left _ h)
  rw[e] at ho
  have hlen:(u2++z::q2).length+1=M:=by rw[←e];simp at p3 ⊢;omega
  rw[aT] at hsum;simp only[aU] at hsum;simp at hlen
  by_cases hn:z.most+aU u2<0
  ·have:=hl z.src (u2.length+1) ⟨z::u2,⟨rfl,z1⟩,Over.cons ho.right.head ho.left,by simp,hn⟩
   omega
  ·have:=hl z.src (q2.length+1) ⟨z::q2,⟨rfl,z2.2⟩,ho.right,by simp,by simp only[aU];omega⟩
   omega
 obtain⟨j,hj,ej⟩:=List.getElem_of_mem (p2 z hzp);have h1:=hmin j ⟨z,hzp,by rw[List.getElem?_eq_getElem hj,ej]⟩
 have h3:j≠i:=by
  rintro rfl;rw[List.getElem?_eq_getElem hj,ej] at hi;exact hzx (Option.some.inj hi)
 have:z=(bs.drop (i+1))[j-(i+1)]'(by simp;omega):=by
  rw[List.getElem_drop];rw[←ej]
  congr 1;omega
 rw[this];exact List.getElem_mem _
def wK (N:Nat) (bs:List Bd) (i k:Nat):Bool :=
 ((cC N (bs.drop (i+1)) (bs.getD i cn).src.toNat k).getD (bs.getD i cn).dst.toNat o6).ok&&decide ((bs.getD i cn).most+((cC N (bs.drop (i+1)) (bs.getD i cn).src.toNat k).getD (bs.getD i cn).dst.toNat o6).s<0)
def Br (N:Nat) (bs:List Bd) (i:Nat):Option Nat:=((List.range (N-1)).map (·+1)).find? (wK N bs i)
def wL (N:Nat) (bs:List Bd) (i:Nat) (st:Nat×Nat):Nat×Nat :=
 match Br N bs i with
 | none=>st
 | some k=>if st.1=0∨k+1≤st.1 then(k+1,i) else st
def ww (N:Nat) (bs:List Bd):Nat→Nat×Nat→Nat×Nat
 | 0,st=>st
 | i+1,st=>ww N bs i (wL N bs i st)
def vX (N:Nat) (bs:List Bd) (st:Nat×Nat):List Int :=
 iv bs (cC N (bs.drop (st.2+1)) (bs.getD st.2 cn).src.toNat) (aq (bG st.2) bs.length) (st.1-1) (bs.getD st.2 cn).dst (-1-(bs.getD st.2 cn).most) []
theorem jo {N:Nat} {bs:List Bd} (hN:N≤128) (hv:au N bs) {i k:Nat} (hi:i<bs.length) (hk:k≤129):wK N bs i k=true↔NegFrom bs i k:=by
 have hm:bs.getD i cn∈bs:=by rw[List.getD_eq_getElem?_getD,List.getElem?_eq_getElem hi];exact List.getElem_mem hi
 obtain⟨v1,v2,v3,v4,_,_⟩:=hv _ hm;have hs:(((bs.getD i cn).src.toNat:Nat):Int)=(bs.getD i cn).src:=Int.toNat_of_nonneg v1;have hd:(((bs.getD i cn).dst.toNat:Nat):Int)=(bs.getD i cn).dst:=Int.toNat_of_nonneg v3;have hvd:=jO hv (i+1);unfold wK
 rcases lO hN (by omega:(bs.getD i cn).src.toNat<N) hvd hk (by omega:(bs.getD i cn).dst.toNat<N) with ⟨r1,r2⟩|⟨r1,r2⟩
 ·rw[r2]
  simp only[Bool.true_and,decide_eq_true_eq]
  constructor
  ·intro h
   obtain⟨p,p1,p2,p3,p4⟩:=iV hN (by omega:(bs.getD i cn).src.toNat<N) hvd hk (by omega:(bs.getD i cn).dst.toNat<N) r1;rw[hs,hd] at p1;exact⟨p,p1,p2,p3,by omega⟩
  ·rintro⟨p,p1,p2,p3,p4⟩
   have:=lN hN (by omega:(bs.getD i cn).src.toNat<N) hvd hk (by omega:(bs.getD i cn).dst.toNat<N) (p:=p) (by rw[hs,hd];exact p1) p2 p3;omega
 ·rw[r2]
  simp only[Bool.false_and,Bool.false_eq_true,false_iff];rintro⟨p,p1,p2,p3,p4⟩;exact r1 (lN hN (by omega:(bs.getD i cn).src.toNat<N) hvd hk (by omega:(bs.getD i cn).dst.toNat<N) (p:=p) (by rw[hs,hd];exact p1) p2 p3).1
theorem vY {p:Nat→Bool}:∀(n:Nat) {k:Nat},((List.range n).map (·+1)).find? p=some k→p k=true∧1≤k∧k≤n∧∀j,1≤j→j<k→p j=false
 | 0,k,h=>by simp at h
 | n+1,k,h=>by
   rw[List.range_succ,List.map_append,List.find?_append] at h
   cases hq:((List.range n).map (·+1)).find? p with
   | some m =>
     rw[hq] at h;simp at h;subst h;obtain⟨a,b,c,d⟩:=vY n hq;exact⟨a,b,by omega,d⟩
   | none =>
     rw[hq] at h;simp only[List.map_cons,List.map_nil,List.find?_cons,List.find?_nil,Option.none_or] at h
     split at h
     ·rename_i hp
      simp at h;subst h;refine⟨hp,by omega,Nat.le_refl _,fun j h1 h2=>?_⟩;have:=List.find?_eq_none.1 hq j (by simp only[List.mem_map,List.mem_range];exact⟨j-1,by omega,by omega⟩);simpa using this
     ·simp at h
theorem qU {p:Nat→Bool} {n:Nat} (h:((List.range n).map (·+1)).find? p=none) {j:Nat} (h1:1≤j) (h2:j≤n):p j=false:=by
 have:=List.find?_eq_none.1 h j (by simp only[List.mem_map,List.mem_range];exact⟨j-1,by omega,by omega⟩);simpa using this
structure Bb (bs:List Bd) (M j:Nat) (st:Nat×Nat):Prop where
 no:st.1=0→∀i,j≤i→i<bs.length→¬NegFrom bs i (M-1)
 ge:st.1≠0→M≤st.1
 hit:st.1=M→j≤st.2∧st.2<bs.length∧NegFrom bs st.2 (M-1)
 first:∀i,j≤i→i<bs.length→NegFrom bs i (M-1)→st.1=M∧st.2≤i
theorem qb {N:Nat} {bs:List Bd} (hN:N≤128) (hv:au N bs) {M:Nat} (hM:lA bs M) (h2:2≤M) (hMN:M≤N):∀(j:Nat) (st:Nat×Nat),j≤bs.length→Bb bs M j st→Bb bs M 0 (ww N bs j st)
 | 0,st,_,H=>H
 | j + 1, st, hj, H => by
   refine qb hN hv hM h2 hMN j _ (by omega) ?_
   have hmin:∀k,k≤129→wK N bs j k=true→M≤k+1:=fun k hk h=>hM.2 _ _ (((jo hN hv (by omega) hk).1 h).neg (by omega)).1
   unfold wL
   cases hq:Br N bs j with
   | none =>
     have hno:¬NegFrom bs j (M-1):=fun h=>by
      have:=qU hq (j:=M-1) (by omega) (by omega);rw[(jo hN hv (by omega) (by omega)).2 h] at this;simp at this
     show Bb bs M j st
     refine⟨fun e i h1 h3=>?_,H.ge,fun e=>?_,fun i h1 h3 h4=>?_⟩
     ·by_cases e2:i=j
      ·subst e2;exact hno
      ·exact H.no e i (by omega) h3
     ·have:=H.hit e;exact⟨by omega,this.2⟩
     ·by_cases e2:i=j
      ·subst e2;exact absurd h4 hno
      ·exact H.first i (by omega) h3 h4
   | some k =>
     obtain⟨f1,f2,f3,f4⟩:=vY _ hq;have hk:=hmin k (by omega) f1;have hneg:=(jo hN hv (by omega) (by omega)).1 f1
     have hkj:NegFrom bs j (M-1)→k+1=M:=fun h=>by
      have h3:=(jo hN hv (by omega:j<bs.length) (by omega)).2 h
      by_cases e:M-1<k
      ·rw[f4 (M-1) (by omega) e] at h3;simp at h3
      ·omega
     simp only
     split
     ·rename_i hle
      refine⟨fun e=>by simp at e,fun _=>hk,fun e=>?_,fun i h1 h3 h4=>?_⟩
      ·simp only at e
       refine⟨Nat.le_refl _,by omega,?_⟩
       rw[show M-1=k by omega];exact hneg
      ·by_cases e2:i=j
       ·subst e2;exact⟨hkj h4,Nat.le_refl _⟩
       ·have:=H.first i (by omega) h3 h4
        simp only;omega
     ·rename_i hle
      refine⟨fun e=>by omega,H.ge,fun e=>?_,fun i h1 h3 h4=>?_⟩
      ·have:=H.hit e;exact⟨by omega,this.2⟩
      ·by_cases e2:i=j
       ·subst e2
        have:=hkj h4;have:=H.ge (by omega);omega
       ·exact H.first i (by omega) h3 h4
theorem qy {N:Nat} {bs:List Bd} (hN:N≤128) (hv:au N bs) {M:Nat} (hM:lA bs M) (h2:2≤M) (hMN:M≤N) :
 ∃i,i<bs.length∧NegFrom bs i (M-1)∧ww N bs bs.length (0,0)=(M,i)∧(List.range bs.length).find? (cM bs (bN bs N N))=some i:=by
 have H:=qb hN hv hM h2 hMN bs.length (0,0) (Nat.le_refl _) ⟨fun _ i h1 h3=>by omega,fun e=>by simp at e,fun e=>by simp at e;omega,fun i h1 h3=>by omega⟩;obtain⟨i0,hi0,hn0⟩:=uP hv hM h2
 obtain⟨e1,_⟩:=H.first i0 (Nat.zero_le _) hi0 hn0
 obtain⟨_,hl,hn⟩:=H.hit e1;obtain⟨st,hst⟩:=ag (ww N bs bs.length (0,0));rw[hst] at H e1 hl hn ⊢;refine⟨st.2,hl,hn,by rw[←e1],iG hl (fun k hk=>?_) ((mC hN hv hM h2 hMN hl).2 hn)⟩
 cases hc:cM bs (bN bs N N) k with
 | false=>rfl
 | true =>
   have:=(H.first k (Nat.zero_le _) (by omega) ((mC hN hv hM h2 hMN (by omega)).1 hc)).2;omega
theorem m6 {N:Nat} {bs:List Bd} (hN:N≤128) (hv:au N bs) {M i:Nat} (h2:2≤M) (hMN:M≤N) (hi:i<bs.length) (hn:NegFrom bs i (M-1)):bM bs (aq (bG i) bs.length) (dt (dT bs M i) (bs.getD i cn).most) (M-1) (bs.getD i cn).dst 0 []=some (vX N bs (M,i)):=by
 have hm:bs.getD i cn∈bs:=by rw[List.getD_eq_getElem?_getD,List.getElem?_eq_getElem hi];exact List.getElem_mem hi
 obtain⟨y,hy⟩:=ag (bs.getD i cn);unfold vX dT;unfold NegFrom at hn;rw[jI hi];simp only;rw[hy] at hm hn ⊢;obtain⟨v1,v2,v3,v4,_,_⟩:=hv _ hm;obtain⟨sN,hs⟩:=Int.eq_ofNat_of_zero_le v1
 have hsN:sN<N:=by omega
 rw[hs] at hn ⊢;rw[Int.toNat_natCast];have hvd:=jO hv (i+1);obtain⟨L,hL⟩:=ag (bs.drop (i+1));have hsel:=jI hi;rw[hL] at hvd hn hsel ⊢
 have hmem:∀j∈aq (bG i) bs.length,bs.getD j cn∈L:=fun j hj=>by have:=tU (bs:=bs) hj;rwa [hsel] at this
 let P:Nat→Int→Int→Prop:=fun k at_ sum=>k≤M-1∧∃q,Walk at_ sN q∧Over L q∧q.length=k∧y.most+sum+aU q<0
 have hget:∀k,k≤M-1→(aK L sN (M-1)).getD k []=aI L sN k:=fun k hk=>bP L sN (M-1) hk
 have fit:∀k at_ sum,P (k+1) at_ sum→∀j∈aq (bG i) bs.length,fe bs (dt (aK L sN (M-1)) y.most) k at_ sum j=nA bs (cC N L sN) k at_ (-1-y.most-sum) j:=by
  rintro k at_ sum ⟨hk,_⟩ j hj;obtain⟨x,hx⟩:=ag (bs.getD j cn);have hxm:=hmem j hj;unfold fe nA dt az;rw[hx] at hxm ⊢;obtain⟨w1,w2,w3,w4,_,_⟩:=hvd x hxm;rw[Int.toNat_natCast,hget k (by omega),Bool.and_assoc]
  congr 1
  rw[AO hN hsN hvd (by omega) (by omega:x.dst.toNat<N) (fun s=>decide (y.most+(sum+x.most)+s<0))]
  congr 1
  rw[Bool.eq_iff_iff];simp only[decide_eq_true_eq];omega
 have ex:∀k at_ sum,P (k+1) at_ sum→∃j∈aq (bG i) bs.length,fe bs (dt (aK L sN (M-1)) y.most) k at_ sum j=true:=by
  rintro k at_ sum ⟨hk,q,q1,q2,q3,q4⟩
  cases q with
  | nil=>simp at q3
  | cons x q =>
    obtain⟨j,hj,hx⟩:=qf (bs:=bs) (ks:=aq (bG i) bs.length) (x:=x) (by rw[hsel];exact q2.head);refine⟨j,hj,?_⟩;simp only[aU] at q4;obtain⟨w1,w2,w3,w4,_,_⟩:=hvd x q2.head;have hdst:((x.dst.toNat:Nat):Int)=x.dst:=Int.toNat_of_nonneg w3;have hr:=lN hN hsN hvd (k:=k) (by omega) (by omega:x.dst.toNat<N) (p:=q) (by rw[hdst];exact q1.2) q2.tail (by simpa using q3);unfold fe dt az;rw[hx,Int.toNat_natCast,hget k (by omega)];have h1:((aI L sN k).getD x.dst.toNat 0<1125899906842624):=hr.1
    have h3:y.most+(sum+x.most)+(aI L sN k).getD x.dst.toNat 0<0:=by omega
    rw[beq_iff_eq.2 q1.1,decide_eq_true h1,decide_eq_true h3];rfl
 have st:∀k at_ sum j,P (k+1) at_ sum→j∈aq (bG i) bs.length→fe bs (dt (aK L sN (M-1)) y.most) k at_ sum j=true→P k (bs.getD j cn).dst (sum+(bs.getD j cn).most):=by
  rintro k at_ sum j ⟨hk,_⟩ hj hf;obtain⟨x,hx⟩:=ag (bs.getD j cn);have hxm:=hmem j hj;unfold fe dt az at hf;rw[hx] at hxm hf ⊢;obtain⟨w1,w2,w3,w4,_,_⟩:=hvd x hxm;rw[Int.toNat_natCast,hget k (by omega)] at hf;simp only[Bool.and_eq_true,beq_iff_eq,decide_eq_true_eq] at hf;obtain⟨f1,f2,f3⟩:=hf;have hdst:((x.dst.toNat:Nat):Int)=x.dst:=Int.toNat_of_nonneg w3;obtain⟨r,r1,r2,r3,r4⟩:=iV hN hsN hvd (k:=k) (by omega) (by omega:x.dst.toNat<N) f2;rw[hdst] at r1;exact⟨by omega,r,r1,r2,r3,by omega⟩
 have hP:P (M-1) y.dst 0:=by
  obtain⟨q,q1,q2,q3,q4⟩:=hn;exact⟨Nat.le_refl _,q,q1,q2,q3,by omega⟩
 have:=jc (lim:=-1-y.most) P fit ex st (M-1) y.dst 0 [] hP;rw[this,Int.sub_zero]
def dg (bs:List Bd) (i:Int):Bd:=bs.getD i.toNat cn
def bO (n:Nat) (l:List Int):Bool:=!(l.any fun i=>!bm i 0 ((n:Int)-1))
def kY (bs:List Bd) (b:Int):List Int→Int→Int→Int×Bool
 | [],at_,n=>(n,at_==b)
 | i::l,at_,n=>if(dg bs i).src != at_ then(0,false) else kY bs b l (dg bs i).dst (n+(dg bs i).most)
def ut (bs:List Bd) (l:List Int) (a b:Int):Int×Bool:=if 2000<l.length then(0,false) else if bO bs.length l=true then kY bs b l a 0 else(0,false)
theorem sT (n:Nat) (i:Int) (l:List Int):bO n (i::l)=(bm i 0 ((n:Int)-1)&&bO n l):=by
 unfold bO;rw[List.any_cons];cases bm i 0 ((n:Int)-1)<;>simp
theorem g9 {n:Nat} {l:List Int}:bO n l=true↔∀i∈l,0≤i∧i<n:=by
 unfold bO;simp only[Bool.not_eq_true',List.any_eq_false]
 constructor
 ·intro h i hi;have:=kB.1 (by simpa using h i hi);omega
 ·intro h i hi;have:=h i hi;simp[kB.2 (show 0≤i∧i≤(n:Int)-1 by omega)]
theorem p8 (bs:List Bd) (b:Int):∀(l:List Int) (at_ n:Int),(kY bs b l at_ n).2=true↔Walk at_ b (l.map (dg bs))
 | [],at_,n=>by simp[kY,Walk]
 | i::l,at_,n=>by
   simp only[kY,List.map_cons,Walk]
   by_cases hs:(dg bs i).src=at_
   ·rw[if_neg (by simp[hs]),p8 bs b l];simp[hs]
   ·rw[if_pos (by simpa using hs)];simp[hs]
theorem pT (bs:List Bd) (b:Int):∀(l:List Int) (at_ n:Int),(kY bs b l at_ n).2=true→(kY bs b l at_ n).1=n+aU (l.map (dg bs))
 | [],at_,n,_=>by simp[kY,aU]
 | i::l,at_,n,h=>by
   simp only[kY,List.map_cons,aU] at h ⊢
   by_cases hs:(dg bs i).src=at_
   ·rw[if_neg (by simp[hs])] at h ⊢
    rw[pT bs b l _ _ h];omega
   ·rw[if_pos (by simpa using hs)] at h;simp at h
theorem gl {bs:List Bd} {l:List Int} (h:bO bs.length l=true):Over bs (l.map (dg bs)):=by
 intro x hx;obtain⟨i,hi,rfl⟩:=List.mem_map.1 hx;have:=g9.1 h i hi;unfold dg;rw[List.getD_eq_getElem?_getD,List.getElem?_eq_getElem (by omega:i.toNat<bs.length)];exact List.getElem_mem _
theorem oG {bs:List Bd} {l:List Int} {a b:Int}:(ut bs l a b).2=true↔l.length≤2000∧bO bs.length l=true∧Walk a b (l.map (dg bs)):=by
 unfold ut
 split
 ·simp;omega
 ·split
  ·rename_i h1 h2
   rw[p8];simp[h2];omega
  ·rename_i h1 h2
   simp[h2]
theorem sL {bs:List Bd} {l:List Int} {a b:Int} (h:(ut bs l a b).2=true):(ut bs l a b).1=aU (l.map (dg bs)):=by
 unfold ut at h ⊢
 split at h
 ·simp at h
 ·rename_i h1
  split at h
  ·rename_i h2
   rw[if_neg h1,if_pos h2,pT _ _ _ _ _ h];omega
  ·simp at h
def mi (bs:List Bd) (l:List Int):List Int:=l.map fun i=>(dg bs i).src
def gO (bs:List Bd) (l:List Int):Bool :=
 if l.length<2∨bO bs.length l=false then false
 else if ¬(mi bs l).Nodup then false
 else(ut bs l (dg bs (l.getD 0 0)).src (dg bs (l.getD 0 0)).src).2&&decide ((ut bs l (dg bs (l.getD 0 0)).src (dg bs (l.getD 0 0)).src).1<0)
theorem mY {N:Nat}:∀{l:List Int},l.Nodup→(∀x∈l,0≤x∧x<N)→l.length≤N:=by
 intro l hn hr
 apply Classical.byContradiction
 intro hgt
 obtain⟨i,j,hij,hj,e⟩:=vp N (fun k=>(l.getD k 0).toNat) (fun k hk=>by
  have hk2:k<l.length:=by omega
  have:=hr (l.getD k 0) (by rw[List.getD_eq_getElem?_getD,List.getElem?_eq_getElem hk2];exact List.getElem_mem hk2)
  show(l.getD k 0).toNat<N
  omega)
 have hi2:i<l.length:=by omega
 have hj2:j<l.length:=by omega
 have e1:l.getD i 0=l[i]:=by rw[List.getD_eq_getElem?_getD,List.getElem?_eq_getElem hi2];rfl
 have e2:l.getD j 0=l[j]:=by rw[List.getD_eq_getElem?_getD,List.getElem?_eq_getElem hj2];rfl
 have e3:(l.getD i 0).toNat=(l.getD j 0).toNat:=e;rw[e1,e2] at e3;have r1:=hr l[i] (List.getElem_mem hi2);have r2:=hr l[j] (List.getElem_mem hj2)
 have e4:l[i]=l[j]:=by omega
 rw[List.nodup_iff_pairwise_ne,List.pairwise_iff_getElem] at hn;exact hn i j hi2 hj2 hij e4
theorem ig {N:Nat} {bs:List Bd} (hN:N≤128) (hv:au N bs) {l:List Int}:gO bs l=true↔2≤l.length∧bO bs.length l=true∧(mi bs l).Nodup∧Walk (dg bs (l.getD 0 0)).src (dg bs (l.getD 0 0)).src (l.map (dg bs))∧aU (l.map (dg bs))<0:=by
 unfold gO
 split
 ·rename_i h
  constructor
  ·intro e;simp at e
  ·rintro⟨h1,h2,_⟩
   rcases h with h|h
   ·omega
   ·rw[h2] at h;simp at h
 ·rename_i h
  split
  ·rename_i h2
   constructor
   ·intro e;simp at e
   ·rintro⟨_,_,h3,_⟩;exact absurd h3 h2
  ·rename_i h2
   have h2':(mi bs l).Nodup:=Classical.not_not.1 h2
   have hi:bO bs.length l=true:=by
    cases hq:bO bs.length l with
    | true=>rfl
    | false=>exact absurd (.inr hq) h
   have hlen:l.length≤2000:=by
    have:=mY (N:=N) h2' (fun x hx=>by
     obtain⟨i,hi2,rfl⟩:=List.mem_map.1 hx;have:=hv _ (gl hi _ (List.mem_map.2 ⟨i,hi2,rfl⟩))
     exact⟨this.1,this.2.1⟩)
    unfold mi at this;rw[List.length_map] at this;omega
   rw[Bool.and_eq_true,oG,decide_eq_true_eq]
   constructor
   ·rintro⟨h3,h4⟩
    rw[sL (oG.2 h3)] at h4;exact⟨by omega,hi,h2',h3.2.2,h4⟩
   ·rintro⟨_,_,_,h3,h4⟩
    have h5:=oG.2 ⟨hlen,hi,h3⟩;exact⟨⟨hlen,hi,h3⟩,by rw[sL h5];exact h4⟩
theorem qC {N:Nat} {bs:List Bd} (hN:N≤128) (hv:au N bs) {l:List Int} (h:gO bs l=true):∃a,NegK bs a l.length:=by
 obtain⟨h1,h2,h3,h4,h5⟩:=(ig hN hv).1 h;exact⟨_,l.map (dg bs),h4,gl h2,by simp,h5⟩
theorem gL {bs:List Bd} {ks:List Nat} {gd:Int→Int→Int→Bool}:∀(many:Nat) (at_ sum:Int) (acc r:List Int),bM bs ks gd many at_ sum acc=some r →
 ∃l fin,r=acc++l∧l.length=many∧(∀i∈l,∃k∈ks,i=(k:Int))∧Walk at_ fin (l.map (dg bs))∧(0<many→gd 0 fin (sum+aU (l.map (dg bs)))=true)∧(many=0→fin=at_)
 | 0,at_,sum,acc,r,h=>by
   simp only[bM,Option.some.injEq] at h;exact⟨[],at_,by simp[h],rfl,by simp,rfl,by omega,fun _=>rfl⟩
 | k+1,at_,sum,acc,r,h=>by
   simp only[bM] at h
   split at h
   ·simp at h
   ·rename_i i hf
    have hi:=List.mem_of_find?_eq_some hf;have hx:=List.find?_some hf;unfold fe at hx;simp only[Bool.and_eq_true,beq_iff_eq] at hx;obtain⟨l,fin,h1,h2,h3,h4,h5,h6⟩:=gL k _ _ _ r h
    have hb:dg bs (i:Int)=bs.getD i cn:=by unfold dg;rw[Int.toNat_natCast]
    refine⟨(i:Int)::l,fin,by rw[h1];simp,by simp[h2],?_,?_,fun _=>?_,by omega⟩
    ·intro j hj
     rcases List.mem_cons.1 hj with e|e
     ·exact⟨i,hi,e⟩
     ·exact h3 j e
    ·rw[List.map_cons,hb];exact⟨hx.1,h4⟩
    ·rw[List.map_cons,hb]
     simp only[aU]
     by_cases hk:0<k
     ·have:=h5 hk;rwa [Int.add_assoc] at this
     ·have hk0:k=0:=by omega
      have hl:l=[]:=List.length_eq_zero_iff.1 (by omega);have hg:=hx.2;rw[hk0] at hg;rw[h6 hk0,hl];simp only[List.map_nil,aU,Int.add_zero];exact hg
theorem oZ {N:Nat} (hN:N≤128) (l:List Bd) {tow v:Nat} (hv:v<N) (h:(aI l tow 0).getD v 0<aC):v=tow∧(aI l tow 0).getD v 0=0:=by
 unfold aI at h ⊢;rw[cq] at h ⊢
 by_cases e:v=tow
 ·subst e;rw[if_pos ⟨rfl,by simp;omega⟩];exact⟨rfl,rfl⟩
 ·rw[if_neg (fun q=>e q.1),fq (by omega)] at h;omega
theorem zv {N:Nat} {bs:List Bd} {t:List Int} (HO:NetOk N bs t) (ht:aG N bs=some t) {a b:Nat} (ha:a<N) (hb:b<N) (hd:aF N bs a b<aC) :
 (dA N bs a b).length≤N∧bO bs.length (dA N bs a b)=true∧Walk a b ((dA N bs a b).map (dg bs))∧aU ((dA N bs a b).map (dg bs))=aF N bs a b:=by
 have hN:=HO.n1
 have hdist:j7 bs a b (aF N bs a b):=by
  have h2:=(HO.row ha).2 b hb;unfold aF at hd ⊢;rw[eB ht] at hd ⊢
  rcases h2 with ⟨_,q⟩|⟨q,_⟩
  ·exact q
  ·omega
 obtain⟨m,hm,hmN,hr⟩:=kN HO ha hb hdist;have hg:=o8 HO ht ha hb hd hmN hr;obtain⟨r,hrr⟩:=ag (iv bs (cC N bs b) (aq iy bs.length) m a (aF N bs a b) []);rw[hrr] at hg;unfold dA;rw[hm,Int.toNat_natCast];obtain⟨l,fin,h1,h2,h3,h4,h5,h6⟩:=gL _ _ _ _ _ hg
 have e:cj bs (aq iy bs.length) (dK (aK bs b N) (aF N bs a b)) a m=l:=by unfold cj;rw[hg];simpa using h1
 rw[e]
 have hidx:bO bs.length l=true:=g9.2 fun i hi=>by
  obtain⟨k,hk,rfl⟩:=h3 i hi;have:=(ee.1 hk).1;omega
 by_cases hm0:m=0
 ·subst hm0
  have hl:l=[]:=List.length_eq_zero_iff.1 h2;have hw:=oZ hN bs ha (by omega:(aI bs b 0).getD a 0<aC);subst hl;refine⟨by simp,hidx,?_,?_⟩
  ·have:=hw.1;subst this;rfl
  ·rw[←hr,hw.2];rfl
 ·have hgd:=h5 (by omega)
  unfold dK at hgd;rw[Bool.and_eq_true,decide_eq_true_eq,beq_iff_eq] at hgd;have h00:Int.toNat 0=0:=rfl;rw[h00,bP _ _ _ (Nat.zero_le _)] at hgd
  have hfin:0≤fin∧fin<N:=by
   have hov:=gl hidx;have h7:=eh (l:=l.map (dg bs)) (l.map (dg bs)).length (Nat.le_refl _) h4;rw[List.drop_length] at h7;have h8:gS (a:Int) (l.map (dg bs)) (l.map (dg bs)).length=fin:=h7.2;have:=eU HO.valid (a:=(a:Int)) (l:=l.map (dg bs)) (l.map (dg bs)).length (by omega) (by omega) hov
   rw[h8] at this;exact this
  obtain⟨fn,rfl⟩:=Int.eq_ofNat_of_zero_le hfin.1;unfold az at hgd;rw[Int.toNat_natCast] at hgd;have hw:=oZ hN bs (by omega:fn<N) hgd.1;obtain⟨rfl,hw2⟩:=hw;exact⟨by omega,hidx,h4,by rw[hw2] at hgd;omega⟩
theorem vC {N:Nat} {bs:List Bd} (hN:N≤128) (hv:au N bs) (hns:∀b∈bs,b.src≠b.dst) (h:aG N bs=none) :
 ∃c,i6 bs N=some c∧gO bs c=true∧∀l,gO bs l=true→c.length≤l.length:=by
 have hno:¬i7 bs:=fun hn=>by
  have:=(mg hN hv).2 hn
  rw[h] at this;simp at this
 obtain⟨M,hM,h2,hMN⟩:=xc hv hns hno;obtain⟨i,hi,hn,e1,e2⟩:=qy hN hv hM h2 hMN;have hg:=m6 hN hv h2 hMN hi hn;have hM1:=(mz hN hv hM hMN).1
 have hm:bs.getD i cn∈bs:=by rw[List.getD_eq_getElem?_getD,List.getElem?_eq_getElem hi];exact List.getElem_mem hi
 obtain⟨v1,v2,v3,v4,_,_⟩:=hv _ hm;obtain⟨l,fin,h1,h3,h4,h5,h6,h7⟩:=gL _ _ _ _ _ hg
 have hrest:g7 bs M i=l:=by unfold g7 cj;rw[hg];simpa using h1
 refine⟨(i:Int)::l,?_,?_,?_⟩
 ·unfold i6
  rw[e2,hM1];simp only;rw[hrest]
 ·have hbi:dg bs (i:Int)=bs.getD i cn:=by unfold dg;rw[Int.toNat_natCast]
  have hidx:bO bs.length ((i:Int)::l)=true:=g9.2 fun j hj=>by
   rcases List.mem_cons.1 hj with e|e
   ·omega
   ·obtain⟨k,hk,rfl⟩:=h4 j e
    have:=(ee.1 hk).1;omega
  have hidl:bO bs.length l=true:=by rw[sT,Bool.and_eq_true] at hidx;exact hidx.2
  have hov:=gl hidx;have hgd:=h6 (by omega);unfold dt dT at hgd;rw[Bool.and_eq_true,decide_eq_true_eq,decide_eq_true_eq] at hgd;have h00:Int.toNat 0=0:=rfl;rw[h00,bP _ _ _ (Nat.zero_le _)] at hgd
  have hfin:0≤fin∧fin<N:=by
   have h8:=eh (l:=l.map (dg bs)) (l.map (dg bs)).length (Nat.le_refl _) h5;rw[List.drop_length] at h8;have h9:gS (bs.getD i cn).dst (l.map (dg bs)) (l.map (dg bs)).length=fin:=h8.2;have:=eU hv (a:=(bs.getD i cn).dst) (l:=l.map (dg bs)) (l.map (dg bs)).length v3 v4 (gl hidl)
   rw[h9] at this;exact this
  obtain⟨fn,rfl⟩:=Int.eq_ofNat_of_zero_le hfin.1;unfold az at hgd;rw[Int.toNat_natCast] at hgd;have hw:=oZ hN _ (by omega:fn<N) hgd.1
  have hsrc:((fn:Nat):Int)=(bs.getD i cn).src:=by have:=hw.1;omega
  have hneg:aU (((i:Int)::l).map (dg bs))<0:=by
   rw[List.map_cons,hbi];simp only[aU]
   rw[hw.2] at hgd;omega
  have hwalk:Walk (bs.getD i cn).src (bs.getD i cn).src (((i:Int)::l).map (dg bs)):=by
   rw[List.map_cons,hbi];refine⟨rfl,?_⟩
   rw[hsrc] at h5;exact h5
  refine(ig hN hv).2 ⟨by simp[h3];omega,hidx,?_,by simpa [hbi] using hwalk,hneg⟩;obtain⟨p,hp⟩:=ag (((i:Int)::l).map (dg bs))
  have hpl:p.length=M:=by rw[←hp];simp[h3];omega
  have hsp:mi bs ((i:Int)::l)=p.map (fun x=>x.src):=by rw[←hp];unfold mi;rw[List.map_map];rfl
  rw[hp] at hov hneg hwalk;rw[hsp];clear hsp hgd hw h5 h6 h7 hidx hidl h1 h3 h4 hg hp;rw[List.nodup_iff_pairwise_ne,List.pairwise_map]
  by_cases hq:List.Pairwise (fun x y:Bd=>x.src≠y.src) p
  ·exact hq
  ·exfalso
   have hdup:∃u x m y q,p=u++x::(m++y::q)∧x.src=y.src:=by
    clear hov hneg hwalk hpl
    induction p with
    | nil=>exact absurd List.Pairwise.nil hq
    | cons x p ih =>
      rw[List.pairwise_cons] at hq
      by_cases hx:∀y∈p,x.src≠y.src
      ·obtain⟨u,x',m,y,q,e,e2⟩:=ih (fun h=>hq ⟨hx,h⟩)
       exact⟨x::u,x',m,y,q,by rw[e];rfl,e2⟩
      ·obtain⟨y,hy⟩:=Classical.not_forall.1 hx
       obtain⟨hy1,hy2⟩:=Classical.not_imp.1 hy;obtain⟨m,q,e⟩:=List.append_of_mem hy1;exact⟨[],x,m,y,q,by rw[e];rfl,Classical.not_not.1 hy2⟩
   obtain⟨u,x,m,y,q,e,exy⟩:=hdup;subst e;obtain⟨s1,w1,w2⟩:=dH.1 hwalk;have e1:=w2.1;subst e1;obtain⟨s2,w3,w4⟩:=dH.1 w2.2;have e2:=w4.1;rw[←exy] at e2;subst e2;have hcl:Walk x.src x.src (x::m):=⟨rfl,w3⟩;have hrs:Walk (bs.getD i cn).src (bs.getD i cn).src (u++y::q):=w1.trans w4
   have hlen:u.length+(m.length+(q.length+1)+1)=M:=by simpa using hpl
   rw[aT] at hneg;simp only[aU,aT] at hneg
   by_cases hn2:x.most+aU m<0
   ·have:=hM.2 x.src (m.length+1) ⟨x::m,hcl,Over.cons (hov _ (by simp)) (fun z hz=>hov z (by simp[hz])),by simp,hn2⟩
    omega
   ·have:=hM.2 _ (u.length+(q.length+1)) ⟨u++y::q,hrs,Over.append (fun z hz=>hov z (by simp[hz])) (Over.cons (hov _ (by simp)) (fun z hz=>hov z (by simp[hz]))),by simp,by rw[aT];simp only[aU];omega⟩
    omega
 ·intro k hk
  obtain⟨a,ha⟩:=qC hN hv hk;have:=hM.2 a _ ha
  simp[h3];omega
structure my (N:Nat) (bs:List Bd) (y:List Int):Prop where
 len:y.length=N
 zero:y.getD 0 0=0
 bd:∀v∈y,-400000000≤v∧v≤400000000
 pot:yD y bs
theorem uz {N:Nat} {bs:List Bd} {y:List Int} (k:my N bs y) {a b:Int} {l:List Bd} (hw:Walk a b l) (ho:Over bs l):az y b-az y a≤aU l:=ow k.pot hw ho
theorem uw {N:Nat} {bs:List Bd} {t y:List Int} (H:NetOk N bs t) (ht:aG N bs=some t) (k:my N bs y) {a b:Nat} (ha:a<N) (hb:b<N) (hd:aF N bs a b<aC):y.getD b 0-y.getD a 0≤aF N bs a b:=by
 rcases eu H ht ha hb with ⟨_,⟨p,p1,p2,p3⟩,_⟩|⟨h,_⟩
 ·have:=uz k p1 p2
  unfold az at this;rw[Int.toNat_natCast,Int.toNat_natCast] at this;omega
 ·omega
theorem ni {N:Nat} {bs:List Bd} {t:List Int} (H:NetOk N bs t) (ht:aG N bs=some t) {a b:Nat} (ha:a<N) (hb:b<N) (hd:aF N bs a b<aC):-((N:Int)*1000000)≤aF N bs a b∧aF N bs a b≤(N:Int)*1000000:=by
 rcases eu H ht ha hb with ⟨_,q⟩|⟨h,_⟩
 ·exact mf H.valid H.noNeg (by omega) (by omega) q
 ·omega
theorem lU {N:Nat} {bs:List Bd} {t:List Int} (H:NetOk N bs t) (ht:aG N bs=some t) {a:Nat} (ha:a<N):aF N bs a a=0:=by
 rcases eu H ht ha ha with ⟨_,⟨p,p1,p2,p3⟩,q⟩|⟨_,h⟩
 ·have h1:=q [] rfl Over.nil
  have h2:=H.noNeg _ p p1 p2;simp only[aU] at h1;omega
 ·exact absurd Over.nil (h [] rfl)
theorem ko {N:Nat} {bs:List Bd} {t:List Int} (H:NetOk N bs t) (ht:aG N bs=some t) {a b c:Nat} (ha:a<N) (hb:b<N) (hc:c<N) (h1:aF N bs a b<aC) (h2:aF N bs b c<aC):aF N bs a c<aC∧aF N bs a c≤aF N bs a b+aF N bs b c:=by
 rcases eu H ht ha hb with ⟨_,⟨p,p1,p2,p3⟩,_⟩|⟨h,_⟩
 ·rcases eu H ht hb hc with ⟨_,⟨q,q1,q2,q3⟩,_⟩|⟨h,_⟩
  ·rcases eu H ht ha hc with ⟨h3,_,r⟩|⟨_,h⟩
   ·have:=r (p++q) (p1.trans q1) (p2.append q2)
    rw[aT] at this;exact⟨h3,by omega⟩
   ·exact absurd (p2.append q2) (h (p++q) (p1.trans q1))
  ·omega
 ·omega
theorem eR {N:Nat} {bs:List Bd} {t:List Int} (H:NetOk N bs t) (ht:aG N bs=some t) {b:Bd} (hb:b∈bs):aF N bs b.src.toNat b.dst.toNat<aC∧aF N bs b.src.toNat b.dst.toNat≤b.most:=by
 obtain⟨v1,v2,v3,v4,v5,v6⟩:=H.valid b hb;have hw:Walk (b.src.toNat:Int) (b.dst.toNat:Int) [b]:=⟨by omega,by show b.dst=_;omega⟩
 rcases eu H ht (a:=b.src.toNat) (b:=b.dst.toNat) (by omega) (by omega) with ⟨k1,_,k3⟩|⟨_,k2⟩
 ·have:=k3 [b] hw (Over.one hb)
  simp only[aU] at this;exact⟨k1,by omega⟩
 ·exact absurd (Over.one hb) (k2 [b] hw)
def qa (N:Nat) (bs:List Bd):List Int:=(List.range N).map fun p=>aF N bs 0 p
def xC (N:Nat) (bs:List Bd):List Int:=(List.range N).map fun p=>-aF N bs p 0
theorem lh {N:Nat} {bs:List Bd} {p:Nat} (hp:p<N):(qa N bs).getD p 0=aF N bs 0 p:=by simp[qa,List.getD_eq_getElem?_getD,hp]
theorem oF {N:Nat} {bs:List Bd} {p:Nat} (hp:p<N):(xC N bs).getD p 0=-aF N bs p 0:=by simp[xC,List.getD_eq_getElem?_getD,hp]
theorem uF {N:Nat} {bs:List Bd} {t:List Int} (H:NetOk N bs t) (ht:aG N bs=some t) (hall:∀p,p<N→aF N bs 0 p<aC):my N bs (qa N bs):=by
 have h0:=H.n0;have h1:=H.n1;refine⟨by simp[qa],by rw[lh (by omega)];exact lU H ht (by omega),fun v hv=>?_,fun b hb=>?_⟩
 ·simp only[qa,List.mem_map,List.mem_range] at hv
  obtain⟨p,hp,rfl⟩:=hv;have:=ni H ht (a:=0) (by omega) hp (hall p hp);omega
 ·obtain⟨v1,v2,v3,v4,v5,v6⟩:=H.valid b hb
  have hs:b.src.toNat<N:=by omega
  have hd:b.dst.toNat<N:=by omega
  have k:=eR H ht hb;have:=ko H ht (a:=0) (by omega) hs hd (hall _ hs) k.1;unfold az;rw[lh hs,lh hd];omega
theorem yh {N:Nat} {bs:List Bd} {t:List Int} (H:NetOk N bs t) (ht:aG N bs=some t) (hall:∀p,p<N→aF N bs p 0<aC):my N bs (xC N bs):=by
 have h0:=H.n0;have h1:=H.n1;refine⟨by simp[xC],by rw[oF (by omega),lU H ht (by omega)];rfl,fun v hv=>?_,fun b hb=>?_⟩
 ·simp only[xC,List.mem_map,List.mem_range] at hv
  obtain⟨p,hp,rfl⟩:=hv;have:=ni H ht (b:=0) hp (by omega) (hall p hp);omega
 ·obtain⟨v1,v2,v3,v4,v5,v6⟩:=H.valid b hb
  have hs:b.src.toNat<N:=by omega
  have hd:b.dst.toNat<N:=by omega
  have k:=eR H ht hb;have:=ko H ht (c:=0) hs hd (by omega) k.1 (hall _ hd);unfold az;rw[oF hs,oF hd];omega
theorem A3 {a b A B:Int} (h1:-A≤a) (h2:a≤A) (h3:-B≤b) (h4:b≤B):-(A*B)≤a*b∧a*b≤A*B:=by
 have hA:a.natAbs≤A.toNat:=by omega
 have hB:b.natAbs≤B.toNat:=by omega
 have h:(a*b).natAbs≤A.toNat*B.toNat:=by rw[Int.natAbs_mul];exact Nat.mul_le_mul hA hB
 have e:((A.toNat*B.toNat:Nat):Int)=A*B:=by rw[Int.natCast_mul,Int.toNat_of_nonneg (by omega),Int.toNat_of_nonneg (by omega)]
 omega
end Go.Proofs.YtkhemfnlflbniaaGreatDoor
namespace Go.Proofs.YtkhemfnlflbniaaGreatDoor
open Go Go.RowKit Go.Shelf Tryz
theorem oA {P:Program} {ops:Array Oper} {o:Oper} {a:Act} {w:World} {K:Act→World→Prop} {Q:Exit→Act→World→Prop} {E:Prop} (hgd:o.guard=none) {w':World} {s x:Operand} {t:TypeId} {vs vx v:Value}
 (hop:o.op=Op.call { callee:=Callee.builtin Builtin.append,args:=#[s,x],argTypes:=#[t,t] }) (hs:a.eval s=vs) (hx:a.eval x=vx) (hrun:(Builtin.append_ #[t,t] o.type #[vs,vx]).run P w=.ok v w')
 (h:K (a.put o.dst v) w'):if Region.wanted o (yielded ops a.tmps)=true then Oper.wp P o a w K Q else E:=by
 have hw:Region.wanted o (yielded ops a.tmps)=true:=by simp[Region.wanted,hgd]
 rw[if_pos hw];unfold Oper.wp;rw[dR hop hs hx hrun];exact h
section
variable {P:Program} {ops:Array Oper} {Q:Exit→Act→World→Prop} {md:Region.Mode} {S:World→Prop} {last:Nat}
theorem ae {fuel:Nat} {listed:Array Bool} {a:Act} {w:World} (i:Nat) {o:Oper} (ho:ops[i]?=some o) (hr:Region.ready md ops listed=[i])
 (h:∀K':Act→World→Prop,Shut (∀a w,(i=last∨S w)→bv P md ops Q S last fuel (listed.setIfInBounds i true) a w→K' a w)→if Region.wanted o (yielded ops a.tmps)=true then Oper.wp P o a w K' Q else K' (a.put o.dst undef) w) :
 bv P md ops Q S last (fuel+1) listed a w :=
 jM i hr (wpOp_step ho fun K' hK=>h K' fun a w h1 h2=>hK a w ⟨h1,h2⟩)
end
def pN (P:Program) (f:FuncId) (caps:Array Value) (w:World) (xs:List ByteArray) (p:ByteArray→Bool):Prop :=
 ∀k (_:k<xs.length) (W:World),Below w.heap.size w W→Calls P f (#[.string xs[k]]++caps) W fun e W'=>e=.returned (.bool (p xs[k]))∧Below W.heap.size W W'
theorem kZ (w:World) (a:Option Addr) (cap:Nat) (xs:List ByteArray) (f:FuncId) (caps:Array Value) (p:ByteArray→Bool) (hl:xs.length≤9223372036854775807) (h:StrsAt w a xs)
 (hf:pN prog f caps w xs p) (eg:Enters prog f) :
 Calls prog 260 #[.slice a xs.length cap,.func (.func f) #[] caps] w fun e w'=>e=.returned (.int .i64 (bk p xs))∧Below w.heap.size w w':=by
 have H:=aa h;have HF:=aa hf;unfold Enters at eg;clear h hf;go_enter func260,ntmps260;go_wp2
 go_loopw [8] (fun i wr=>∃k:Nat,k≤xs.length∧i=.int .i64 k∧Hid ((xs.take k).any p=false)∧Below w.heap.size w wr)
  (fun i _=>xs.length-(intOf i).toNat)
 case atStart=>exact⟨0,by omega,rfl,aa rfl,by go_grown⟩
 case round =>
  obtain⟨k,hk,rfl,HA,hb⟩:=hrel
  by_cases hlt:k<xs.length
  ·obtain⟨b,off,rfl,hbl,hc⟩:=RecsAt.at H.out hlt
   have hcall:=HF.out k hlt wr hb;obtain⟨x,hx⟩:=ag (xs[k]);rw[hx] at hc hcall;have c0:=hc 0 (by omega);rw[←hb.cell hbl,Nat.mul_one,Nat.add_zero] at c0;simp only[cO,List.getElem?_cons_zero] at c0;clear hc;have HX:=aa hx;clear hx
   cases hq:p x with
   | true =>
     rw[hq] at hcall;go_wp2_with (go_at_fn f;refine hcall.mono ?_;rintro e w' ⟨rfl,hb'⟩);go_ret;exact⟨by rw[dC hlt HA.out (by rw[HX.out];exact hq)];rfl,bB hb hb'⟩
   | false =>
     rw[hq] at hcall;go_wp2_with (go_at_fn f;refine hcall.mono ?_;rintro e w' ⟨rfl,hb'⟩);go_roundw
     case rel=>exact⟨k+1,by omega,by go_num,aa (bR hlt HA.out (by rw[HX.out];exact hq)),bB hb hb'⟩
     case measure=>simp[intOf];omega
  ·go_wp2_with fail
   go_ret;exact⟨by rw[dc (cD (by omega) HA.out)];rfl,hb⟩
theorem dD (w:World) (a:Option Addr) (cap:Nat) (xs:List ByteArray) (f:FuncId) (caps:Array Value) (p:ByteArray→Bool) (hl:xs.length≤9223372036854775807) (h:StrsAt w a xs)
 (hf:pN prog f caps w xs p) (eg:Enters prog f) :
 Calls prog 207 #[.slice a xs.length cap,.func (.func f) #[] caps] w fun e w'=>e=.returned (.bool (xs.any p))∧Below w.heap.size w w':=by
 have H:=aa h;have HF:=aa hf;have E:=aa eg;clear h hf eg;go_enter func207,ntmps207;go_wp2_with (go_at_call 260;refine(kZ _ a cap xs f caps p hl H.out HF.out E.out).mono ?_;rintro e w' ⟨rfl,hb⟩)
 all_goals go_ret
 refine⟨?_,hb⟩;have:=ji (p:=p) xs
 cases hq:xs.any p with
 | true=>rw[hq] at this;simp at this;simp[this]
 | false=>rw[hq] at this;simp at this;simp[this]
def ql (P:Program) (f:FuncId) (caps:Array Value) (w:World) (xs:List Par) (p:Par→Bool):Prop :=
 ∀k (_:k<xs.length) (W:World),Below w.heap.size w W→Calls P f (#[xs[k].val]++caps) W fun e W'=>e=.returned (.bool (p xs[k]))∧Below W.heap.size W W'
theorem kM (w:World) (a:Option Addr) (cap:Nat) (xs:List Par) (f:FuncId) (caps:Array Value) (p:Par→Bool) (hl:xs.length≤9223372036854775807) (h:vN w a xs)
 (hf:ql prog f caps w xs p) (eg:Enters prog f) :
 Calls prog 262 #[.slice a xs.length cap,.func (.func f) #[] caps] w fun e w'=>e=.returned (.int .i64 (bk p xs))∧Below w.heap.size w w':=by
 have H:=aa h;have HF:=aa hf;unfold Enters at eg;clear h hf;go_enter func262,ntmps262;go_wp2
 go_loopw [8] (fun i wr=>∃k:Nat,k≤xs.length∧i=.int .i64 k∧Hid ((xs.take k).any p=false)∧Below w.heap.size w wr)
  (fun i _=>xs.length-(intOf i).toNat)
 case atStart=>exact⟨0,by omega,rfl,aa rfl,by go_grown⟩
 case round =>
  obtain⟨k,hk,rfl,HA,hb⟩:=hrel
  by_cases hlt:k<xs.length
  ·obtain⟨b,off,rfl,hbl,hc⟩:=RecsAt.at H.out hlt
   have hcall:=HF.out k hlt wr hb;obtain⟨x,hx⟩:=ag (xs[k]);rw[hx] at hc hcall;have c0:=hc 0 (by omega);have c1:=hc 1 (by omega);have c2:=hc 2 (by omega);have c3:=hc 3 (by omega);rw[←hb.cell hbl,Nat.add_zero] at c0;rw[←hb.cell hbl] at c1 c2 c3;simp only[Par.cells,List.getElem?_cons_zero,List.getElem?_cons_succ] at c0 c1 c2 c3;dsimp only[Par.val] at hcall;clear hc;have HX:=aa hx;clear hx
   cases hq:p x with
   | true =>
     rw[hq] at hcall;go_wp2_with (go_at_fn f;refine hcall.mono ?_;rintro e w' ⟨rfl,hb'⟩);go_ret;exact⟨by rw[dC hlt HA.out (by rw[HX.out];exact hq)];rfl,bB hb hb'⟩
   | false =>
     rw[hq] at hcall;go_wp2_with (go_at_fn f;refine hcall.mono ?_;rintro e w' ⟨rfl,hb'⟩);go_roundw
     case rel=>exact⟨k+1,by omega,by go_num,aa (bR hlt HA.out (by rw[HX.out];exact hq)),bB hb hb'⟩
     case measure=>simp[intOf];omega
  ·go_wp2_with fail
   go_ret;exact⟨by rw[dc (cD (by omega) HA.out)];rfl,hb⟩
theorem iZ (w:World) (a:Option Addr) (cap:Nat) (xs:List Par) (f:FuncId) (caps:Array Value) (p:Par→Bool) (hl:xs.length≤9223372036854775807) (h:vN w a xs)
 (hf:ql prog f caps w xs p) (eg:Enters prog f) :
 Calls prog 213 #[.slice a xs.length cap,.func (.func f) #[] caps] w fun e w'=>e=.returned (.bool (xs.any p))∧Below w.heap.size w w':=by
 have H:=aa h;have HF:=aa hf;have E:=aa eg;clear h hf eg;go_enter func213,ntmps213;go_wp2_with (go_at_call 262;refine(kM _ a cap xs f caps p hl H.out HF.out E.out).mono ?_;rintro e w' ⟨rfl,hb⟩)
 all_goals go_ret
 refine⟨?_,hb⟩;have:=ji (p:=p) xs
 cases hq:xs.any p with
 | true=>rw[hq] at this;simp at this;simp[this]
 | false=>rw[hq] at this;simp at this;simp[this]
theorem rY (w:World) (s:Sta):Calls prog 257 #[s.val] w fun e w'=>e=.returned (.string s.name)∧Below w.heap.size w w':=by
 unfold Sta.val;go_enter func257,ntmps257;go_wp2_with fail;go_ret;exact⟨rfl,by go_grown⟩
theorem qR (w:World) (a:Option Addr) (cap:Nat) (l:List Sta) (hl:l.length≤4000) (h:RecsAt 2 Sta.cells w a l) :
 Calls prog 256 #[.slice a l.length cap,.func (.func 257) #[] #[]] w fun e w'=>∃v,e=.returned v∧w'.ownsRow w.heap.size 9 1 v l.length ((l.map Sta.name).flatMap cO)∧Below w.heap.size w w':=by
 have H:=aa h;have eg:Enters prog 257:=enters_of func257 (by kernel_rfl) rfl;unfold Enters at eg;clear h;go_enter func256,ntmps256;go_wp2_with fail
 go_loopw [5,10] (fun v i wr=>∃k:Nat,k≤l.length∧i=.int .i64 k∧Hid (wr.ownsRow w.heap.size 9 1 v k (((l.take k).map Sta.name).flatMap cO))∧Below w.heap.size w wr)
  (fun _ i _=>l.length-(intOf i).toNat)
 case atStart=>exact⟨0,Nat.zero_le _,rfl,aa (World.ownsRow_nil _ _ _ _),by go_grown⟩
 case round =>
  obtain⟨k,hk,rfl,hown,hb⟩:=hrel
  by_cases hlt:k<l.length
  ·obtain⟨b,off,rfl,hbl,hc⟩:=RecsAt.at H.out hlt
   have HTK:Hid (((l.take (k+1)).map Sta.name).flatMap cO=((l.take k).map Sta.name).flatMap cO++[.string (l[k]).name]):=aa (by rw[List.take_succ_eq_append_getElem hlt,List.map_append,List.flatMap_append];rfl);obtain⟨x,hx⟩:=ag (l[k]);rw[hx] at hc HTK;have c0:=hc 0 (by omega);have c1:=hc 1 (by omega);rw[←hb.cell hbl,Nat.add_zero] at c0;rw[←hb.cell hbl] at c1;simp only[Sta.cells,List.getElem?_cons_zero,List.getElem?_cons_succ] at c0 c1;clear hc
   have hcl:=fun W=>rY W x
   dsimp only[Sta.val] at hcl;have HCL:=aa hcl;clear hx hcl;have b1:=hb.alloc hb.size (.cells #[.string x.name,.int .i64 x.x] 131);have HOWN:=aa (hown.out.alloc (.cells #[.string x.name,.int .i64 x.x] 131));have HB1:=aa b1;clear b1 hown;go_wp2_with fail;refine(HCL.out _).mono ?_;rintro e w2 ⟨rfl,hb2⟩;have B2:=bU HB1 hb2;have own2:=av HOWN.out (fun g hg=>hb2.block g (jh HOWN.out hg).1);have own3:=own2.alloc (.cells #[.string x.name] 9);obtain⟨v',wa,hrun,hown',hbl2,_⟩:=ij (w:=w2.alloc (.cells #[.string x.name] 9)) (tS:=23) underlying23 AW rfl (by decide) (by decide) own3 (b:=w2.heap.size) (news:=[.string x.name]) rfl (heap_alloc_new _ _) (by intro u hu;simp at hu;subst hu;rfl) (by omega) (by have:=B2.out.size;simp;omega) 23;have HRUN:=aa hrun;have HOW:=aa hown';have HBL:=aa ((B2.out.alloc B2.out.size _).trans hbl2);clear hrun hown' hbl2 own2 own3 hb2;go_wp2_with (at_builtin;refine aN rfl (s:=.tmp 14) (x:=.tmp 18) (t:=23) rfl rfl rfl HRUN.out ?_);go_roundw
   case rel=>exact⟨k+1,by omega,by go_num,aa (by rw[HTK.out];exact HOW.out),HBL.out⟩
   case measure=>simp[intOf];omega
  ·obtain rfl:k=l.length:=by omega
   have hall:l.take l.length=l:=List.take_length;rw[hall] at hown;clear hall;go_wp2_with fail;go_ret;exact⟨_,rfl,hown.out,hb⟩
theorem rR (w:World) (s:Par):Calls prog 259 #[s.val] w fun e w'=>e=.returned (.string s.name)∧Below w.heap.size w w':=by
 unfold Par.val;go_enter func259,ntmps259;go_wp2_with fail;go_ret;exact⟨rfl,by go_grown⟩
theorem rC (w:World) (a:Option Addr) (cap:Nat) (l:List Par) (hl:l.length≤4000) (h:RecsAt 4 Par.cells w a l) :
 Calls prog 258 #[.slice a l.length cap,.func (.func 259) #[] #[]] w fun e w'=>∃v,e=.returned v∧w'.ownsRow w.heap.size 9 1 v l.length ((l.map Par.name).flatMap cO)∧Below w.heap.size w w':=by
 have H:=aa h;have eg:Enters prog 259:=enters_of func259 (by kernel_rfl) rfl;unfold Enters at eg;clear h;go_enter func258,ntmps258;go_wp2_with fail
 go_loopw [5,10] (fun v i wr=>∃k:Nat,k≤l.length∧i=.int .i64 k∧Hid (wr.ownsRow w.heap.size 9 1 v k (((l.take k).map Par.name).flatMap cO))∧Below w.heap.size w wr)
  (fun _ i _=>l.length-(intOf i).toNat)
 case atStart=>exact⟨0,Nat.zero_le _,rfl,aa (World.ownsRow_nil _ _ _ _),by go_grown⟩
 case round =>
  obtain⟨k,hk,rfl,hown,hb⟩:=hrel
  by_cases hlt:k<l.length
  ·obtain⟨b,off,rfl,hbl,hc⟩:=RecsAt.at H.out hlt
   have HTK:Hid (((l.take (k+1)).map Par.name).flatMap cO=((l.take k).map Par.name).flatMap cO++[.string (l[k]).name]):=aa (by rw[List.take_succ_eq_append_getElem hlt,List.map_append,List.flatMap_append];rfl);obtain⟨x,hx⟩:=ag (l[k]);rw[hx] at hc HTK;have c0:=hc 0 (by omega);have c1:=hc 1 (by omega);have c2:=hc 2 (by omega);have c3:=hc 3 (by omega);rw[←hb.cell hbl,Nat.add_zero] at c0;rw[←hb.cell hbl] at c1 c2 c3;simp only[Par.cells,List.getElem?_cons_zero,List.getElem?_cons_succ] at c0 c1 c2 c3;clear hc
   have hcl:=fun W=>rR W x
   dsimp only[Par.val] at hcl;have HCL:=aa hcl;clear hx hcl;have b1:=hb.alloc hb.size (.cells #[.string x.name,.int .i64 x.south,.int .i64 x.wst,.int .i64 x.est] 133);have HOWN:=aa (hown.out.alloc (.cells #[.string x.name,.int .i64 x.south,.int .i64 x.wst,.int .i64 x.est] 133));have HB1:=aa b1;clear b1 hown;go_wp2_with fail;refine(HCL.out _).mono ?_;rintro e w2 ⟨rfl,hb2⟩;have B2:=bU HB1 hb2;have own2:=av HOWN.out (fun g hg=>hb2.block g (jh HOWN.out hg).1);have own3:=own2.alloc (.cells #[.string x.name] 9);obtain⟨v',wa,hrun,hown',hbl2,_⟩:=ij (w:=w2.alloc (.cells #[.string x.name] 9)) (tS:=23) underlying23 AW rfl (by decide) (by decide) own3 (b:=w2.heap.size) (news:=[.string x.name]) rfl (heap_alloc_new _ _) (by intro u hu;simp at hu;subst hu;rfl) (by omega) (by have:=B2.out.size;simp;omega) 23;have HRUN:=aa hrun;have HOW:=aa hown';have HBL:=aa ((B2.out.alloc B2.out.size _).trans hbl2);clear hrun hown' hbl2 own2 own3 hb2;go_wp2_with (at_builtin;refine aN rfl (s:=.tmp 14) (x:=.tmp 18) (t:=23) rfl rfl rfl HRUN.out ?_);go_roundw
   case rel=>exact⟨k+1,by omega,by go_num,aa (by rw[HTK.out];exact HOW.out),HBL.out⟩
   case measure=>simp[intOf];omega
  ·obtain rfl:k=l.length:=by omega
   have hall:l.take l.length=l:=List.take_length;rw[hall] at hown;clear hall;go_wp2_with fail;go_ret;exact⟨_,rfl,hown.out,hb⟩
structure FV where
 aS:Option Addr
 cS:Nat
 aL:Option Addr
 cL:Nat
 aP:Option Addr
 cP:Nat
 aV:Option Addr
 cV:Nat
def FV.arr (x:FV) (F:Fld):Array Value:=#[.slice x.aS F.sts.length x.cS,.slice x.aL F.lms.length x.cL,.slice x.aP F.prs.length x.cP,.slice x.aV F.vrs.length x.cV]
def FV.val (x:FV) (F:Fld):Value:=.agg (x.arr F)
structure FldAt (w:World) (x:FV) (F:Fld):Prop where
 st:Be w x.aS F.sts
 lm:StrsAt w x.aL F.lms
 pr:vN w x.aP F.prs
 vr:VrnsAt w x.aV F.vrs
 ls:F.sts.length≤x.cS∧x.cS≤9223372036854775807
 ll:F.lms.length≤x.cL∧x.cL≤9223372036854775807
 lp:F.prs.length≤x.cP∧x.cP≤9223372036854775807
 lv:F.vrs.length≤x.cV∧x.cV≤9223372036854775807
 nm:∀l∈F.names,∀s∈l,s.size≤9223372036854775807
 sx:∀s∈F.sts,bK s.x
 px:∀p∈F.prs,bK p.south∧bK p.wst∧bK p.est
 vx:∀v∈F.vrs,bK v.year∧bK v.east
theorem FldAt.below {w w':World} {x:FV} {F:Fld} (h:FldAt w x F) (hb:Below w.heap.size w w'):FldAt w' x F :=
 ⟨h.st.below hb (Nat.le_refl _),h.lm.below hb (Nat.le_refl _),h.pr.below hb (Nat.le_refl _),h.vr.below hb (Nat.le_refl _),h.ls,h.ll,h.lp,h.lv,h.nm,h.sx,h.px,h.vx⟩
theorem FldAt.alloc {w:World} {x:FV} {F:Fld} (h:FldAt w x F) (o:Obj):FldAt (w.alloc o) x F:=h.below ((Below.refl w.heap.size w).alloc (Nat.le_refl _) o)
def xJ (x:FV) (F:Fld) (e:Ending) (w':World):Prop :=
 ∃o0 c0 o2 c2,e=.returned (.agg #[.slice o0 F.sts.length c0,.slice x.aL F.lms.length x.cL,.slice o2 F.prs.length c2])∧StrsAt w' o0 (F.sts.map Sta.name)∧(F.sts.length≤c0∧c0≤9223372036854775807)∧StrsAt w' o2 (F.prs.map Par.name)∧F.prs.length≤c2∧c2≤9223372036854775807
theorem xw (w:World) (x:FV) (F:Fld) (h1:F.sts.length≤4000) (h2:F.prs.length≤4000) (h:FldAt w x F) :
 Calls prog 206 #[x.val F] w fun e w'=>xJ x F e w'∧Below w.heap.size w w':=by
 have H:=aa h;clear h;unfold FV.val FV.arr;obtain⟨aS,cS,aL,cL,aP,cP,aV,cV⟩:=x;obtain⟨st,lm,pr,vr⟩:=F;dsimp only at h1 h2 ⊢;obtain⟨W0,hW0⟩:∃W0,W0=(w.alloc (.cells #[.slice aS st.length cS,.slice aL lm.length cL,.slice aP pr.length cP,.slice aV vr.length cV] 27)).alloc (.cells #[.slice none 0 0,.slice none 0 0,.slice none 0 0] 225):=⟨_,rfl⟩
 have hb0:Below w.heap.size w W0:=by rw[hW0];exact(aD).alloc (by simp) _
 have x0:W0.heap[w.heap.size]?=some (.cells #[.slice aS st.length cS,.slice aL lm.length cL,.slice aP pr.length cP,.slice aV vr.length cV] 27 (0,0)):=by rw[hW0];exact heap_alloc2_old _ _ _
 have x1:W0.heap[w.heap.size+1]?=some (.cells #[.slice none 0 0,.slice none 0 0,.slice none 0 0] 225 (0,0)):=by rw[hW0,heap_alloc2_new]
 have c0:W0.cell? ⟨w.heap.size,0,none⟩=some (.slice aS st.length cS):=bu x0 rfl;have c1:W0.cell? ⟨w.heap.size,1,none⟩=some (.slice aL lm.length cL):=bu x0 rfl;have c2:W0.cell? ⟨w.heap.size,2,none⟩=some (.slice aP pr.length cP):=bu x0 rfl;have HS:=aa (fun(W:World) (hb:Below w.heap.size w W)=>qR W aS cS st h1 (H.out.st.below hb (Nat.le_refl _)));have HP:=aa (fun(W:World) (hb:Below w.heap.size w W)=>rC W aP cP pr h2 (H.out.pr.below hb (Nat.le_refl _)));have l0:w.heap.size+1<W0.heap.size:=lt_of_block x1
 have l0':w.heap.size<W0.heap.size:=by omega
 have B0:=aa hb0;have X1:=aa x1;go_enter func206,ntmps206;go_upto_region 1 with fail;rw[←hW0];clear hW0 hb0 x0 x1;refine aJ (S:=fun V=>V.cell? ⟨w.heap.size,0,none⟩=some (.slice aS st.length cS)∧V.cell? ⟨w.heap.size,1,none⟩=some (.slice aL lm.length cL)∧V.cell? ⟨w.heap.size,2,none⟩=some (.slice aP pr.length cP)) (last:=9) (by kernel_rfl) ?_;have hS0:W0.drew.cell? ⟨w.heap.size,0,none⟩=some (.slice aS st.length cS)∧W0.drew.cell? ⟨w.heap.size,1,none⟩=some (.slice aL lm.length cL)∧W0.drew.cell? ⟨w.heap.size,2,none⟩=some (.slice aP pr.length cP):=⟨c0,c1,c2⟩;refine bC (i:=0) (v:=.pointer (some ⟨w.heap.size,0,none⟩)) (by kernel_rfl) (by decide) rfl (by kernel_rfl) (by kernel_rfl) (by kernel_rfl) (fun _ _ _ h=>h) (.inl ⟨rfl,fun V hV=>?_⟩) hS0 ?_
 ·simp[go_sem,execOp]
 (try simp only[Act.put,List.setIfInBounds_toArray]);refine bC (i:=1) (v:=.slice aS st.length cS) (by kernel_rfl) (by decide) rfl (by kernel_rfl) (by kernel_rfl) (by kernel_rfl) (fun _ _ _ h=>h) (.inl ⟨rfl,fun V hV=>?_⟩) hS0 ?_
 ·obtain⟨z0,z1,z2⟩:=hV
  simp[go_sem,execOp,z0]
 (try simp only[Act.put]);refine bC (i:=3) (v:=.pointer (some ⟨w.heap.size,1,none⟩)) (by kernel_rfl) (by decide) rfl (by kernel_rfl) (by kernel_rfl) (by kernel_rfl) (fun _ _ _ h=>h) (.inl ⟨rfl,fun V hV=>?_⟩) hS0 ?_
 ·simp[go_sem,execOp]
 (try simp only[Act.put]);refine bC (i:=4) (v:=.slice aL lm.length cL) (by kernel_rfl) (by decide) rfl (by kernel_rfl) (by kernel_rfl) (by kernel_rfl) (fun _ _ _ h=>h) (.inl ⟨rfl,fun V hV=>?_⟩) hS0 ?_
 ·obtain⟨z0,z1,z2⟩:=hV
  simp[go_sem,execOp,z1]
 (try simp only[Act.put]);refine bC (i:=5) (v:=.pointer (some ⟨w.heap.size,2,none⟩)) (by kernel_rfl) (by decide) rfl (by kernel_rfl) (by kernel_rfl) (by kernel_rfl) (fun _ _ _ h=>h) (.inl ⟨rfl,fun V hV=>?_⟩) hS0 ?_
 ·simp[go_sem,execOp]
 (try simp only[Act.put]);refine bC (i:=6) (v:=.slice aP pr.length cP) (by kernel_rfl) (by decide) rfl (by kernel_rfl) (by kernel_rfl) (by kernel_rfl) (fun _ _ _ h=>h) (.inl ⟨rfl,fun V hV=>?_⟩) hS0 ?_
 ·obtain⟨z0,z1,z2⟩:=hV
  simp[go_sem,execOp,z2]
 (try simp only[Act.put]);refine ae 2 rfl (by kernel_rfl) (fun K hK=>?_);go_simp;go_at_call 256;refine(HS.out _ B0.out.drew).mono ?_;rintro e w1 ⟨v0,rfl,o0,hb1⟩;have k0:=(hb1.cell (p:=⟨w.heap.size,0,none⟩) (by simpa using l0')).trans c0;have k1:=(hb1.cell (p:=⟨w.heap.size,1,none⟩) (by simpa using l0')).trans c1;have k2:=(hb1.cell (p:=⟨w.heap.size,2,none⟩) (by simpa using l0')).trans c2;have B1:=aa (bB B0.out.drew hb1);have X2:=aa (ac hb1 (by simpa using l0) (show W0.drew.heap[w.heap.size+1]?=_ from X1.out));obtain⟨p0,q0,rfl,r0,s0,t0,g0⟩:=iO (f:=cO) (fun _=>rfl) (l:=st.map Sta.name) (by rw[List.length_map];exact o0);rw[List.length_map] at s0;simp only[List.length_map];have O0:=aa r0;have G0:=aa g0;clear hb1 o0 r0 g0;go_wp2_with fail;refine hK.out _ _ (.inr ⟨k0,k1,k2⟩) ?_;clear hK K;(try simp only[Act.put,rI,rH,rJ]);refine ae 7 rfl (by kernel_rfl) (fun K hK=>?_);go_simp;go_at_call 258;refine(HP.out _ B1.out).mono ?_;rintro e w2 ⟨v2,rfl,o2,hb2⟩;have l1:=lt_of_block X2.out;have m0:=(hb2.cell (p:=⟨w.heap.size,0,none⟩) (by show w.heap.size<w1.heap.size;omega)).trans k0;have m1:=(hb2.cell (p:=⟨w.heap.size,1,none⟩) (by show w.heap.size<w1.heap.size;omega)).trans k1;have m2:=(hb2.cell (p:=⟨w.heap.size,2,none⟩) (by show w.heap.size<w1.heap.size;omega)).trans k2;have B2:=bU B1 hb2;have X3:=aa (ac hb2 l1 X2.out);have O1:=aa (O0.out.below hb2 (Nat.le_refl _));obtain⟨p2,q2,rfl,r2,s2,t2,g2⟩:=iO (f:=cO) (fun _=>rfl) (l:=pr.map Par.name) (by rw[List.length_map];exact o2);rw[List.length_map] at s2;simp only[List.length_map];have O2:=aa r2;have G2:=aa g2;clear hb2 o2 r2 g2 k0 k1 k2 c0 c1 c2;go_wp2_with fail;refine hK.out _ _ (.inr ⟨m0,m1,m2⟩) ?_;clear hK K;(try simp only[Act.put,rI,rH,rJ]);refine ae 8 rfl (by kernel_rfl) (fun K hK=>?_);go_simp;refine hK.out _ _ (.inr ⟨m0,m1,m2⟩) ?_;clear hK K;(try simp only[Act.put,rI,rH,rJ]);have f0:w2.frozen? ⟨w.heap.size+1,0,none⟩=false:=frozen_of_row _ _ _ _ _ X3.out;have f1:w2.frozen? ⟨w.heap.size+1,1,none⟩=false:=frozen_of_row _ _ _ _ _ X3.out;have f2:w2.frozen? ⟨w.heap.size+1,2,none⟩=false:=frozen_of_row _ _ _ _ _ X3.out;have d0:w2.cell? ⟨w.heap.size+1,0,none⟩=some (.slice none 0 0):=bu X3.out rfl;have d1:w2.cell? ⟨w.heap.size+1,1,none⟩=some (.slice none 0 0):=bu X3.out rfl;have d2:w2.cell? ⟨w.heap.size+1,2,none⟩=some (.slice none 0 0):=bu X3.out rfl;refine ae 9 rfl (by kernel_rfl) (fun K hK=>?_);go_simp;refine hK.out _ _ (.inl rfl) ?_;clear hK K;refine aw (by kernel_rfl) ?_ _
 obtain⟨W5,hW5⟩:∃X,X=((w2.setCell ⟨w.heap.size+1,0,none⟩ (.slice p0 st.length q0)).setCell ⟨w.heap.size+1,1,none⟩ (.slice aL lm.length cL)).setCell ⟨w.heap.size+1,2,none⟩ (.slice p2 pr.length q2):=⟨_,rfl⟩;rw[←hW5]
 have x5:W5.heap[w.heap.size+1]?=some (.cells #[.slice p0 st.length q0,.slice aL lm.length cL,.slice p2 pr.length q2] 225 (0,0)):=by
  rw[hW5];exact heap_setCell_same _ _ _ _ _ _ (heap_setCell_same _ _ _ _ _ _ (heap_setCell_same _ _ _ _ _ _ X3.out))
 have hb5:Below w.heap.size w W5:=by rw[hW5];exact((B2.out.setCell (by simp) _).setCell (by simp) _).setCell (by simp) _
 have n0:∀q,p0=some q→q.block≠w.heap.size+1:=fun q e=>by have:=G0.out q e;simp at this;omega
 have n2:∀q,p2=some q→q.block≠w.heap.size+1:=fun q e=>by have:=G2.out q e;omega
 have y0:StrsAt W5 p0 (st.map Sta.name):=by rw[hW5];exact((O1.out.set n0 _).set n0 _).set n0 _
 have y2:StrsAt W5 p2 (pr.map Par.name):=by rw[hW5];exact((O2.out.set n2 _).set n2 _).set n2 _
 have r0:W5.cell? ⟨w.heap.size+1,0,none⟩=some (.slice p0 st.length q0):=bu x5 rfl;have r1:W5.cell? ⟨w.heap.size+1,1,none⟩=some (.slice aL lm.length cL):=bu x5 rfl;have r2:W5.cell? ⟨w.heap.size+1,2,none⟩=some (.slice p2 pr.length q2):=bu x5 rfl;go_wp2_with fail;refine bodyPost_ret (v:=.agg #[.slice p0 st.length q0,.slice aL lm.length cL,.slice p2 pr.length q2]) (by simp[results,results206,go_sem,r0,r1,r2]) rfl ⟨⟨p0,q0,p2,q2,rfl,y0,⟨s0,t0⟩,y2,s2,t2⟩,hb5⟩
theorem lW (s:ByteArray) (w:World) (hs:s.size≤9223372036854775807):Calls prog 208 #[.string s] w fun e w'=>e=.returned (.bool (!bI s))∧w=w':=by
 have h:=fun W=>uJ s W hs
 obtain⟨q,hq⟩:=ag (bI s);rw[hq] at h ⊢;have H:=aa h;clear h hq;go_enter func208,ntmps208;go_wp2_with fail;refine(H.out _).mono ?_;rintro e w1 ⟨rfl,rfl⟩;go_wp2_with fail;go_ret;exact⟨rfl,rfl⟩
def Par.small (p:Par):Prop:=(-1000000≤p.south∧p.south≤1000000)∧(-1000000≤p.wst∧p.wst≤1000000)∧(-1000000≤p.est∧p.est≤1000000)
theorem vS (p q:Par) (w:World) (hp:p.small) (hq:q.small):Calls prog 212 #[p.val,q.val] w fun e w'=>e=.returned (.int .i64 (min p.est q.est-max p.wst q.wst))∧Below w.heap.size w w':=by
 obtain⟨_,⟨p1,p2⟩,p3,p4⟩:=hp;obtain⟨_,⟨q1,q2⟩,q3,q4⟩:=hq;unfold Par.val
 have hm1:-1000000≤min p.est q.est:=by omega
 have hm2:min p.est q.est≤1000000:=by omega
 have hm3:-1000000≤max p.wst q.wst:=by omega
 have hm4:max p.wst q.wst≤1000000:=by omega
 go_enter func212,ntmps212;go_wp2_with fail;go_ret;exact⟨rfl,by go_grown⟩
theorem ze (p q:Par) (w:World) (b:Nat) (hp:p.small) (hq:q.small) (hb:w.heap[b]?=some (.cells p.cells.toArray 133 (0,0))) :
 Calls prog 211 #[q.val,.pointer (some ⟨b,0,none⟩)] w fun e w'=>e=.returned (.bool (nG p q))∧Below w.heap.size w w':=by
 have c0:w.cell? ⟨b,0,none⟩=some (.string p.name):=bu hb rfl;have c1:w.cell? ⟨b,1,none⟩=some (.int .i64 p.south):=bu hb rfl;have c2:w.cell? ⟨b,2,none⟩=some (.int .i64 p.wst):=bu hb rfl;have c3:w.cell? ⟨b,3,none⟩=some (.int .i64 p.est):=bu hb rfl;have hbl:=lt_of_block hb
 have hc:=fun W=>vS p q W hp hq
 obtain⟨P,hP⟩:=ag (nG p q);rw[hP];unfold nG at hP;obtain⟨m,hm⟩:=ag (min p.est q.est-max p.wst q.wst);rw[hm] at hc hP;unfold Par.val at hc ⊢;have HC:=aa hc;clear hc hm hp hq hb
 by_cases he:p.south=q.south
 ·have heb:(p.south==q.south)=true:=by simpa using he
  rw[heb] at hP
  by_cases h0:0<m
  ·have h0b:decide (m>0)=true:=by simpa using h0
   obtain rfl:true=P:=by rw[←hP];simp[h0]
   clear hP he h0;go_enter func211,ntmps211;go_wp2_with fail;refine(HC.out _).mono ?_;rintro e w1 ⟨rfl,hb1⟩;go_wp2_with fail;go_ret;exact⟨rfl,(aD).trans (hb1.mono (by simp))⟩
  ·have h0b:decide (m>0)=false:=by simpa using h0
   obtain rfl:false=P:=by rw[←hP];simp[h0]
   clear hP he h0;go_enter func211,ntmps211;go_wp2_with fail;refine(HC.out _).mono ?_;rintro e w1 ⟨rfl,hb1⟩;go_wp2_with fail;go_ret;exact⟨rfl,(aD).trans (hb1.mono (by simp))⟩
 ·have heb:(p.south==q.south)=false:=by simpa using he
  obtain rfl:false=P:=by rw[←hP,heb];rfl
  clear hP he;go_enter func211,ntmps211;go_wp2_with fail;go_ret;exact⟨rfl,by go_grown⟩
end Go.Proofs.YtkhemfnlflbniaaGreatDoor
