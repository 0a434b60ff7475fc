/- What the law LimitsRegions needs beyond the base: Wa, PlA, PlC, PlD, PlG, PlJ, Y1, Co1, Co2, Fc, Oa, Y4, Y7, PureJ, Y8, Co3, Co4, Lm7, Y8b, Ya, G1, Cf1, G2, G3, G4, G5, Cf2, Cf3. No conditions beyond those stated. -/
import Derived.Test.YtkhemfnlflbniaaGreatDoorB01
import Derived.Test.YtkhemfnlflbniaaGreatDoorProg
import Derived.WalkKit
import Derived.Handy
import Derived.RangeFuncRecord
import Derived.Shelf.Abstract
import Derived.Test.YtkhemfnlflbniaaGreatDoorB02
import Derived.Test.YtkhemfnlflbniaaGreatDoorB05
import Derived.Test.YtkhemfnlflbniaaGreatDoorB03
import Derived.Test.YtkhemfnlflbniaaGreatDoorB06
import Derived.Test.YtkhemfnlflbniaaGreatDoorB04
import Derived.Deep.QuietTactic
import Derived.BigQuiet
import Derived.Laws.CopyOwn
import Derived.WalkSmall
import Derived.RangeFuncNested
import Derived.RangeFuncBound
import Derived.RangeFuncCalls
import Derived.RangeFuncLeaves
import Derived.Shelf.RegionOpen
import Derived.OwnWalkIn
import Derived.TacticsInMore
import Derived.LoopNIn
import Derived.LoopIn
import Derived.Maps.AppendAt
import Derived.Deep.Onto
import Derived.OrdersHeld
import Derived.Deep.LoopGhost
import Derived.Deep.WholeRow
import Derived.Deep.OwnRows
import Derived.StillTailTactics
import Derived.Great.Walk
import Derived.Great.BuildSlice
import Derived.WalkMore
import Derived.Deep.MidRow
import Derived.Deep.RegionHeld3
import Derived.Deep.DeepCutAuto
import Derived.Shelf.Small.Bits
import Derived.Shelf.Small.Wraps
import Derived.Shelf.Strconv.Itoa0
import Derived.Shelf.Sort.Plain
import Derived.Shelf.Slices.Turned
import Derived.Ground.Names2Prog
import Derived.Shelf.Slices.CompactI
import Derived.Shelf.Slices.Cells
import Derived.Shelf.Slices.In.SortNone
import Derived.Lib.OwnBridge
import Derived.Lib.SliceRun
import Derived.WalkSpells
import Derived.Deep.RegionWith
import Derived.Lib.AppendZerosOnto
import Derived.Deep.CutBlock
import Derived.Test.YtkhemfnlflbniaaGreatDoorB08
import Derived.Test.YtkhemfnlflbniaaGreatDoorB07
import Derived.IntWalk
import Derived.Test.YtkhemfnlflbniaaGreatDoorB10
import Derived.Test.YtkhemfnlflbniaaGreatDoorB09
import Derived.Deep.Cut
import Derived.Laws.Rows
import Derived.Laws.Tables
set_option maxRecDepth 100000
set_option maxHeartbeats 8000000
namespace Go.Proofs.YtkhemfnlflbniaaGreatDoor
open Go Go.RowKit Go.Shelf Go.Proofs.Tryz
theorem refwithin_any (n a b:Int) (w:World):Calls prog 244 #[.int .i64 n,.int .i64 a,.int .i64 b] w fun e w'=>e=.returned (.bool (bm n a b))∧w=w':=by
 unfold bm;go_enter func244,ntmps244;go_wp2
 all_goals go_ret
 all_goals refine⟨?_,rfl⟩
 all_goals simp[*]
 omega
end Go.Proofs.YtkhemfnlflbniaaGreatDoor
namespace Go.Proofs.YtkhemfnlflbniaaGreatDoor
theorem Over.self {bs:List Bd}:Over bs bs:=fun _ h=>h
theorem j7.unique {l:List Bd} {a b d e:Int} (h:j7 l a b d) (k:j7 l a b e):d=e:=by
 obtain⟨⟨p,p1,p2,p3⟩,h2⟩:=h;obtain⟨⟨q,q1,q2,q3⟩,k2⟩:=k;have:=h2 q q1 q2;have:=k2 p p1 p2;omega
theorem j7.not_none {l:List Bd} {a b d:Int} (h:j7 l a b d) (k:zo l a b):False:=by
 obtain⟨⟨p,p1,p2,_⟩,_⟩:=h;exact k p p1 p2
def mget (d:List (List Fr)) (i j:Nat):Fr:=(d.getD i []).getD j o6
def mset (d:List (List Fr)) (i j:Nat) (x:Fr):List (List Fr):=d.set i ((d.getD i []).set j x)
def mat0 (N:Nat):List (List Fr):=(List.range N).map fun a=>(List.replicate N o6).set a ⟨0,true⟩
def mat1 (d:List (List Fr)) (x:Bd):List (List Fr):=mset d x.src.toNat x.dst.toNat (qT (mget d x.src.toNat x.dst.toNat) ⟨x.most,true⟩)
def cellM (c a:Nat) (d:List (List Fr)) (b:Nat):List (List Fr) :=
 if(mget d a c).ok=true∧(mget d c b).ok=true then mset d a b (qT (mget d a b) (y9 (mget d a c) (mget d c b).s)) else d
def rowM (N c:Nat) (d:List (List Fr)) (a:Nat):List (List Fr):=(List.range N).foldl (cellM c a) d
def pivM (N:Nat) (d:List (List Fr)) (c:Nat):List (List Fr):=(List.range N).foldl (rowM N c) d
def matrixP (N:Nat) (bs:List Bd):List (List Fr):=(List.range N).foldl (pivM N) (bs.foldl mat1 (mat0 N))
def Dim (N:Nat) (d:List (List Fr)):Prop:=d.length=N∧∀i,i<N→(d.getD i []).length=N
theorem mset_dim {N:Nat} {d:List (List Fr)} (h:Dim N d) (i j:Nat) (x:Fr):Dim N (mset d i j x):=by
 refine⟨by unfold mset;rw[List.length_set];exact h.1,fun k hk=>?_⟩;unfold mset;simp only[List.getD_eq_getElem?_getD,List.getElem?_set]
 by_cases e:i=k
 ·subst e
  simp only[if_true,h.1,hk,Option.getD_some,List.length_set];have:=h.2 i hk;rwa [List.getD_eq_getElem?_getD] at this
 ·rw[if_neg e]
  have:=h.2 k hk;rwa [List.getD_eq_getElem?_getD] at this
theorem mget_mset {N:Nat} {d:List (List Fr)} (h:Dim N d) {i j:Nat} (hi:i<N) (hj:j<N) (x:Fr) (k m:Nat):mget (mset d i j x) k m=if k=i∧m=j then x else mget d k m:=by
 unfold mget mset;have h2:=h.2 i hi;simp only[List.getD_eq_getElem?_getD,List.getElem?_set] at h2 ⊢
 by_cases e:i=k
 ·subst e
  simp only[if_true,h.1,hi,Option.getD_some,List.getElem?_set]
  by_cases e2:j=m
  ·subst e2
   simp[h2,hj]
  ·simp[e2,Ne.symm e2]
 ·simp[e,Ne.symm e]
theorem mat0_dim (N:Nat):Dim N (mat0 N):=by
 refine⟨by simp[mat0],fun i hi=>?_⟩;simp[mat0,List.getD_eq_getElem?_getD,hi]
theorem mat0_get {N a b:Nat} (ha:a<N) (hb:b<N):mget (mat0 N) a b=if a=b then⟨0,true⟩ else o6:=by
 unfold mget mat0;simp only[List.getD_eq_getElem?_getD,List.getElem?_map,List.getElem?_range ha,Option.map_some,Option.getD_some,List.getElem?_set,List.length_replicate]
 by_cases e:a=b
 ·subst e;simp[ha]
 ·simp[e,hb]
def LeF (x y:Fr):Prop:=y.ok=true→x.ok=true∧x.s≤y.s
theorem LeF.refl (x:Fr):LeF x x:=fun h=>⟨h,Int.le_refl _⟩
theorem LeF.trans {x y z:Fr} (h1:LeF x y) (h2:LeF y z):LeF x z:=fun h=>by
 obtain⟨a,b⟩:=h2 h;obtain⟨c,d⟩:=h1 a;exact⟨c,by omega⟩
theorem lesser_left (a b:Fr):LeF (qT a b) a:=by
 intro h;unfold qT
 split
 ·rename_i hc
  rcases hc with hc|hc
  ·rw[hc] at h;cases h
  ·exact⟨hc.1,by omega⟩
 ·exact⟨h,Int.le_refl _⟩
theorem lesser_right (a b:Fr):LeF (qT a b) b:=by
 intro h;unfold qT
 split
 ·exact⟨h,Int.le_refl _⟩
 ·rename_i hc
  refine⟨?_,?_⟩
  ·cases ha:a.ok with
   | true=>rfl
   | false=>exact absurd (.inl ha) hc
  ·by_cases h2:b.s<a.s
   ·exact absurd (.inr ⟨h,h2⟩) hc
   ·omega
theorem lesser_cases (a b:Fr):qT a b=a∨qT a b=b:=by unfold qT;split;exact .inr rfl;exact .inl rfl
def Snd (N:Nat) (bs:List Bd) (d:List (List Fr)):Prop:=∀a b:Nat,a<N→b<N→(mget d a b).ok=true→∃p,Walk a b p∧Over bs p∧aU p=(mget d a b).s
theorem snd_mat0 (N:Nat) (bs:List Bd):Snd N bs (mat0 N):=by
 intro a b ha hb h;rw[mat0_get ha hb] at h ⊢
 split at h
 ·rename_i e;subst e;rw[if_pos rfl];exact⟨[],rfl,Over.nil,rfl⟩
 ·cases h
theorem mat1_facts {N:Nat} {bs:List Bd} (hv:au N bs):∀(cs:List Bd) (d:List (List Fr)),Over bs cs→Dim N d→Snd N bs d →
 Dim N (cs.foldl mat1 d)∧Snd N bs (cs.foldl mat1 d)∧(∀a b,LeF (mget (cs.foldl mat1 d) a b) (mget d a b))∧∀x∈cs,LeF (mget (cs.foldl mat1 d) x.src.toNat x.dst.toNat) ⟨x.most,true⟩
 | [],d,_,hd,hs=>⟨hd,hs,fun _ _=>LeF.refl _,fun x hx=>by cases hx⟩
 | x::cs,d,ho,hd,hs=>by
   obtain⟨v1,v2,v3,v4,_,_⟩:=hv x ho.head
   have hi:x.src.toNat<N:=by omega
   have hj:x.dst.toNat<N:=by omega
   have hg:=mget_mset hd hi hj (qT (mget d x.src.toNat x.dst.toNat) ⟨x.most,true⟩);have hd':Dim N (mat1 d x):=mset_dim hd _ _ _
   have hle:∀a b,LeF (mget (mat1 d x) a b) (mget d a b):=by
    intro a b;unfold mat1;rw[hg]
    split
    ·rename_i e;rw[e.1,e.2];exact lesser_left _ _
    ·exact LeF.refl _
   have hs':Snd N bs (mat1 d x):=by
    intro a b ha hb h;unfold mat1 at h ⊢;rw[hg] at h ⊢
    split at h
    ·rename_i e
     rw[if_pos e]
     rcases lesser_cases (mget d x.src.toNat x.dst.toNat) ⟨x.most,true⟩ with q|q
     ·rw[q] at h ⊢
      rw[e.1,e.2];exact hs _ _ hi hj h
     ·rw[q]
      exact⟨[x],⟨by omega,by show x.dst=_;omega⟩,Over.one ho.head,by simp[aU]⟩
    ·rename_i e
     rw[if_neg e];exact hs a b ha hb h
   obtain⟨h1,h2,h3,h4⟩:=mat1_facts hv cs (mat1 d x) ho.tail hd' hs';refine⟨h1,h2,fun a b=>(h3 a b).trans (hle a b),fun y hy=>?_⟩
   rcases List.mem_cons.1 hy with rfl|hy
   ·refine(h3 _ _).trans ?_
    unfold mat1;rw[hg,if_pos ⟨rfl,rfl⟩];exact lesser_right _ _
   ·exact h4 y hy
def newM (old:Nat→Nat→Fr) (c a b:Nat):Fr:=if(old a c).ok=true∧(old c b).ok=true then qT (old a b) (y9 (old a c) (old c b).s) else old a b
theorem lesser_self {a b:Fr} (h1:a.ok=true) (h2:b.s=a.s):qT a b=a:=by
 unfold qT;rw[if_neg];rintro(h|h)
 ·rw[h] at h1;cases h1
 ·omega
theorem newM_col {old:Nat→Nat→Fr} {c:Nat} (hc:old c c=⟨0,true⟩) (a:Nat):newM old c a c=old a c:=by
 unfold newM
 split
 ·rename_i h
  refine lesser_self h.1 ?_
  rw[hc];simp[y9]
 ·rfl
theorem newM_row {old:Nat→Nat→Fr} {c:Nat} (hc:old c c=⟨0,true⟩) (b:Nat):newM old c c b=old c b:=by
 unfold newM
 split
 ·rename_i h
  refine lesser_self h.2 ?_
  rw[hc];simp[y9]
 ·rfl
theorem row_fold {N c a:Nat} {old:Nat→Nat→Fr} (hcN:c<N) (ha:a<N) (hc:old c c=⟨0,true⟩) {d0:List (List Fr)} (hd:Dim N d0) (h0:∀i j,i<N→j<N→mget d0 i j=if i<a then newM old c i j else old i j) :
 ∀k,k≤N→Dim N ((List.range k).foldl (cellM c a) d0)∧∀i j,i<N→j<N→mget ((List.range k).foldl (cellM c a) d0) i j=if i<a∨(i=a∧j<k) then newM old c i j else old i j
 | 0,_=>⟨hd,fun i j hi hj=>by rw[List.range_zero,List.foldl_nil,h0 i j hi hj];by_cases e:i<a<;>simp[e]⟩
 | k+1,hk=>by
   obtain⟨ih1,ih2⟩:=row_fold hcN ha hc hd h0 k (by omega);rw[List.range_succ,List.foldl_append];simp only[List.foldl_cons,List.foldl_nil];obtain⟨d,hdd⟩:=ag ((List.range k).foldl (cellM c a) d0);rw[hdd] at ih1 ih2 ⊢
   have e1:mget d a c=old a c:=by rw[ih2 a c ha hcN];split;exact newM_col hc a;rfl
   have e2:mget d c k=old c k:=by rw[ih2 c k hcN (by omega)];split;exact newM_row hc k;rfl
   have e3:mget d a k=old a k:=by rw[ih2 a k ha (by omega),if_neg (by omega)]
   unfold cellM;rw[e1,e2,e3]
   by_cases hb:(old a c).ok=true∧(old c k).ok=true
   ·rw[if_pos hb]
    refine⟨mset_dim ih1 _ _ _,fun i j hi hj=>?_⟩;rw[mget_mset ih1 ha (by omega)]
    by_cases e:i=a∧j=k
    ·rw[if_pos e,if_pos (by omega),e.1,e.2]
     unfold newM;rw[if_pos hb]
    ·rw[if_neg e,ih2 i j hi hj]
     by_cases h2:i<a∨(i=a∧j<k)
     ·rw[if_pos h2,if_pos (by omega)]
     ·rw[if_neg h2,if_neg (by omega)]
   ·rw[if_neg hb]
    refine⟨ih1,fun i j hi hj=>?_⟩;rw[ih2 i j hi hj]
    by_cases e:i=a∧j=k
    ·rw[if_neg (by omega),if_pos (by omega),e.1,e.2]
     unfold newM;rw[if_neg hb]
    ·by_cases h2:i<a∨(i=a∧j<k)
     ·rw[if_pos h2,if_pos (by omega)]
     ·rw[if_neg h2,if_neg (by omega)]
theorem piv_fold {N c:Nat} {old:Nat→Nat→Fr} (hcN:c<N) (hc:old c c=⟨0,true⟩) {d0:List (List Fr)} (hd:Dim N d0) (h0:∀i j,i<N→j<N→mget d0 i j=old i j) :
 ∀k,k≤N→Dim N ((List.range k).foldl (rowM N c) d0)∧∀i j,i<N→j<N→mget ((List.range k).foldl (rowM N c) d0) i j=if i<k then newM old c i j else old i j
 | 0,_=>⟨hd,fun i j hi hj=>by rw[List.range_zero,List.foldl_nil,h0 i j hi hj];simp⟩
 | k+1,hk=>by
   obtain⟨ih1,ih2⟩:=piv_fold hcN hc hd h0 k (by omega);rw[List.range_succ,List.foldl_append];simp only[List.foldl_cons,List.foldl_nil];obtain⟨r1,r2⟩:=row_fold hcN (show k<N by omega) hc ih1 ih2 N (Nat.le_refl _);refine⟨r1,fun i j hi hj=>?_⟩
   show mget ((List.range N).foldl (cellM c k) ((List.range k).foldl (rowM N c) d0)) i j=_
   rw[r2 i j hi hj]
   by_cases e:i<k∨(i=k∧j<N)
   ·rw[if_pos e,if_pos (by omega)]
   ·rw[if_neg e,if_neg (by omega)]
def Tri (N:Nat) (f:Nat→Nat→Fr) (c:Nat):Prop:=∀a b,a<N→b<N→(f a c).ok=true→(f c b).ok=true→LeF (f a b) (y9 (f a c) (f c b).s)
structure MInv (N:Nat) (bs:List Bd) (k:Nat) (d:List (List Fr)):Prop where
 dim:Dim N d
 snd:Snd N bs d
 diag:∀a,a<N→mget d a a=⟨0,true⟩
 edge:∀x∈bs,LeF (mget d x.src.toNat x.dst.toNat) ⟨x.most,true⟩
 tri:∀c,c<k→Tri N (mget d) c
theorem mInv_step {N:Nat} {bs:List Bd} {k:Nat} {d:List (List Fr)} (hn:i7 bs) (hk:k<N) (H:MInv N bs k d):MInv N bs (k+1) (pivM N d k):=by
 obtain⟨p1,p2⟩:=piv_fold hk (H.diag k hk) H.dim (fun _ _ _ _=>rfl) N (Nat.le_refl _)
 have hg:∀i j,i<N→j<N→mget (pivM N d k) i j=newM (mget d) k i j:=by
  intro i j hi hj;have:=p2 i j hi hj;rw[if_pos hi] at this;exact this
 have hle:∀i j,i<N→j<N→LeF (newM (mget d) k i j) (mget d i j):=by
  intro i j hi hj;unfold newM
  split
  ·exact lesser_left _ _
  ·exact LeF.refl _
 have hsnd:Snd N bs (pivM N d k):=by
  intro a b ha hb h;rw[hg a b ha hb] at h ⊢;unfold newM at h ⊢
  split at h
  ·rename_i e
   rw[if_pos e]
   rcases lesser_cases (mget d a b) (y9 (mget d a k) (mget d k b).s) with q|q
   ·rw[q] at h ⊢;exact H.snd a b ha hb h
   ·rw[q]
    obtain⟨p,w1,o1,s1⟩:=H.snd a k ha hk e.1;obtain⟨q,w2,o2,s2⟩:=H.snd k b hk hb e.2;exact⟨p++q,w1.trans w2,o1.append o2,by rw[aT,s1,s2];rfl⟩
  ·rename_i e
   rw[if_neg e];exact H.snd a b ha hb h
 have hdiag:∀a,a<N→mget (pivM N d k) a a=⟨0,true⟩:=by
  intro a ha;have h1:=hle a a ha ha;rw[H.diag a ha] at h1;obtain⟨h2,h3⟩:=h1 rfl;rw[←hg a a ha ha] at h2 h3;obtain⟨p,w,o,s⟩:=hsnd a a ha ha h2;have:=hn _ p w o
  have hz:(mget (pivM N d k) a a).s=0:=by simp only at h3;omega
  have ext:∀x:Fr,x.s=0→x.ok=true→x=⟨0,true⟩:=by rintro⟨s,o⟩ h1 h2;simp only at h1 h2;rw[h1,h2]
  exact ext _ hz h2
 refine⟨p1,hsnd,hdiag,fun x hx=>?_,fun c hc=>?_⟩
 ·by_cases hb:x.src.toNat<N∧x.dst.toNat<N
  ·rw[hg _ _ hb.1 hb.2]
   exact(hle _ _ hb.1 hb.2).trans (H.edge x hx)
  ·have:=H.edge x hx rfl
   exfalso
   have hz:(mget d x.src.toNat x.dst.toNat).ok=false:=by
    unfold mget
    by_cases e:x.src.toNat<N
    ·have hl:=H.dim.2 _ e
     rw[List.getD_eq_getElem?_getD (l:=d.getD _ _),List.getElem?_eq_none (by omega)];rfl
    ·rw[List.getD_eq_getElem?_getD (l:=d),List.getElem?_eq_none (by rw[H.dim.1];omega)];rfl
   rw[hz] at this;cases this.1
 ·intro a b ha hb h1 h2
  have hcN:c<N:=by omega
  rw[hg a c ha hcN] at h1 ⊢;rw[hg c b hcN hb] at h2 ⊢;rw[hg a b ha hb]
  by_cases e:c=k
  ·subst e
   rw[newM_col (H.diag c hcN)] at h1 ⊢;rw[newM_row (H.diag c hcN)] at h2 ⊢;unfold newM;rw[if_pos ⟨h1,h2⟩];exact lesser_right _ _
  ·have T:=H.tri c (by omega)
   have hkk:=H.diag k hk;intro _
   have A:((mget d a c).ok=true∧(newM (mget d) k a c).s=(mget d a c).s)∨((mget d a k).ok=true∧(mget d k c).ok=true∧(newM (mget d) k a c).s=(mget d a k).s+(mget d k c).s):=by
    unfold newM at h1 ⊢
    split at h1
    ·rename_i q
     rw[if_pos q]
     rcases lesser_cases (mget d a c) (y9 (mget d a k) (mget d k c).s) with z|z
     ·rw[z] at h1 ⊢;exact .inl ⟨h1,rfl⟩
     ·rw[z];exact .inr ⟨q.1,q.2,rfl⟩
    ·rename_i q
     rw[if_neg q];exact .inl ⟨h1,rfl⟩
   have B:((mget d c b).ok=true∧(newM (mget d) k c b).s=(mget d c b).s)∨((mget d c k).ok=true∧(mget d k b).ok=true∧(newM (mget d) k c b).s=(mget d c k).s+(mget d k b).s):=by
    unfold newM at h2 ⊢
    split at h2
    ·rename_i q
     rw[if_pos q]
     rcases lesser_cases (mget d c b) (y9 (mget d c k) (mget d k b).s) with z|z
     ·rw[z] at h2 ⊢;exact .inl ⟨h2,rfl⟩
     ·rw[z];exact .inr ⟨q.1,q.2,rfl⟩
    ·rename_i q
     rw[if_neg q];exact .inl ⟨h2,rfl⟩
   have C1:=hle a b ha hb
   have C2:(mget d a k).ok=true→(mget d k b).ok=true→LeF (newM (mget d) k a b) (y9 (mget d a k) (mget d k b).s):=by
    intro q1 q2;unfold newM;rw[if_pos ⟨q1,q2⟩];exact lesser_right _ _
   rcases A with ⟨a1,a2⟩|⟨a1,a2,a3⟩<;>rcases B with ⟨b1,b2⟩|⟨b1,b2,b3⟩
   ·obtain⟨x1,x2⟩:=T a b ha hb a1 b1 (by simpa [y9] using a1)
    obtain⟨y1,y2⟩:=C1 x1;refine⟨y1,?_⟩;simp only[y9] at x2 ⊢;omega
   ·obtain⟨x1,x2⟩:=T a k ha hk a1 b1 (by simpa [y9] using a1)
    obtain⟨y1,y2⟩:=C2 x1 b2 (by simpa [y9] using x1);refine⟨y1,?_⟩;simp only[y9] at x2 y2 ⊢;omega
   ·obtain⟨x1,x2⟩:=T k b hk hb a2 b1 (by simpa [y9] using a2)
    obtain⟨y1,y2⟩:=C2 a1 x1 (by simpa [y9] using a1);refine⟨y1,?_⟩;simp only[y9] at x2 y2 ⊢;omega
   ·obtain⟨y1,y2⟩:=C2 a1 b2 (by simpa [y9] using a1)
    obtain⟨x1,x2⟩:=T k k hk hk a2 b1 (by simpa [y9] using a2);refine⟨y1,?_⟩;rw[hkk] at x2;simp only[y9] at x2 y2 ⊢;omega
theorem mInv_all {N:Nat} {bs:List Bd} (hv:au N bs) (hn:i7 bs):∀k,k≤N→MInv N bs k ((List.range k).foldl (pivM N) (bs.foldl mat1 (mat0 N)))
 | 0,_=>by
   obtain⟨h1,h2,h3,h4⟩:=mat1_facts hv bs (mat0 N) Over.self (mat0_dim N) (snd_mat0 N bs);refine⟨h1,h2,fun a ha=>?_,h4,fun c hc=>by omega⟩;have:=h3 a a;rw[mat0_get ha ha,if_pos rfl] at this;obtain⟨q1,q2⟩:=this rfl;obtain⟨p,w,o,s⟩:=h2 a a ha ha q1;have h0:=hn _ p w o
   have hz:(mget (bs.foldl mat1 (mat0 N)) a a).s=0:=by simp only at q2;omega
   have ext:∀x:Fr,x.s=0→x.ok=true→x=⟨0,true⟩:=by rintro⟨s,o⟩ h1 h2;simp only at h1 h2;rw[h1,h2]
   exact ext _ hz q1
 | k+1,hk=>by
   rw[List.range_succ,List.foldl_append];exact mInv_step hn (by omega) (mInv_all hv hn k (by omega))
def MatOk (N:Nat) (bs:List Bd) (d:List (List Fr)):Prop:=Dim N d∧∀a b:Nat,a<N→b<N→((mget d a b).ok=true∧j7 bs a b (mget d a b).s)∨((mget d a b).ok=false∧zo bs a b)
theorem matrixP_ok {N:Nat} {bs:List Bd} (hv:au N bs) (hn:i7 bs):MatOk N bs (matrixP N bs):=by
 have H:=mInv_all hv hn N (Nat.le_refl _)
 show MatOk N bs ((List.range N).foldl (pivM N) (bs.foldl mat1 (mat0 N)))
 obtain⟨d,hd⟩:=ag ((List.range N).foldl (pivM N) (bs.foldl mat1 (mat0 N)));rw[hd] at H ⊢
 have low:∀(l:List Bd) (a b:Nat),a<N→b<N→Walk a b l→Over bs l→(mget d a b).ok=true∧(mget d a b).s≤aU l:=by
  intro l
  induction l with
  | nil =>
    intro a b ha hb hw _;simp only[Walk] at hw
    have:a=b:=by omega
    subst this
    rw[H.diag a ha];exact⟨rfl,by simp[aU]⟩
  | cons x l ih =>
    intro a b ha hb hw ho;obtain⟨v1,v2,v3,v4,_⟩:=hv x ho.head
    have e1:x.src.toNat=a:=by have:=hw.1;omega
    have hw2:Walk (x.dst.toNat:Int) b l:=by rw[Int.toNat_of_nonneg v3];exact hw.2
    obtain⟨i1,i2⟩:=ih x.dst.toNat b (by omega) hb hw2 ho.tail;obtain⟨j1,j2⟩:=H.edge x ho.head rfl;rw[e1] at j1 j2;obtain⟨k1,k2⟩:=H.tri x.dst.toNat (by omega) a b ha hb j1 i1 (by simpa [y9] using j1);refine⟨k1,?_⟩;simp only[y9,aU] at k2 j2 ⊢;omega
 refine⟨H.dim,fun a b ha hb=>?_⟩
 cases hok:(mget d a b).ok with
 | true =>
   left
   exact⟨rfl,H.snd a b ha hb hok,fun p hw ho=>(low p a b ha hb hw ho).2⟩
 | false =>
   right
   refine⟨rfl,fun p hw ho=>?_⟩;have:=(low p a b ha hb hw ho).1
   rw[hok] at this;cases this
theorem getI_pad {N:Nat} {h z:List Int} (hl:h.length=N) {v:Int} (v0:0≤v) (v1:v<N):az (h++z) v=az h v:=by
 unfold az;rw[List.getD_eq_getElem?_getD,List.getElem?_append_left (by omega),List.getD_eq_getElem?_getD]
theorem relaxC_pad {N:Nat} {h z:List Int} {f:Bool} {b:Bd} (hb:b.valid N) (hl:h.length=N):bp (h++z,f) b=((bp (h,f) b).1++z,(bp (h,f) b).2):=by
 obtain⟨v1,v2,v3,v4,_,_⟩:=hb;unfold bp;simp only[getI_pad hl v1 v2,getI_pad hl v3 v4]
 split
 ·simp only[Prod.mk.injEq,and_true]
  rw[List.set_append_left _ _ (by omega)]
 ·rfl
theorem fold_pad {N:Nat} {z:List Int}:∀(bs:List Bd) (s:List Int×Bool),au N bs→s.1.length=N→bs.foldl bp (s.1++z,s.2)=((bs.foldl bp s).1++z,(bs.foldl bp s).2)
 | [],_,_,_=>rfl
 | b::bs,s,hv,hl=>by
   rw[List.foldl_cons,List.foldl_cons,relaxC_pad (hv b (List.mem_cons_self ..)) hl];exact fold_pad bs (bp s b) (fun x hx=>hv x (List.mem_cons_of_mem _ hx)) (by rw[jC];exact hl)
theorem openedGo_pad {N:Nat} {z:List Int} {bs:List Bd} (hv:au N bs):∀(r:Nat) (h:List Int),h.length=N→bV bs r (h++z)=(bV bs r h).map (·++z)
 | 0,_,_=>rfl
 | r+1,h,hl=>by
   have e:gM bs (h++z)=((gM bs h).1++z,(gM bs h).2):=fold_pad bs (h,false) hv hl
   have hl2:(gM bs h).1.length=N:=by unfold gM;rw[fB];exact hl
   simp only[bV,e]
   split
   ·exact openedGo_pad hv r _ hl2
   ·rfl
def keptR (N:Nat) (bs:List Bd):Bool:=(bV bs (N+1) (List.replicate N 0)).isSome
theorem keptR_eq {N:Nat} {bs:List Bd} (hN:N≤128) (hv:au N bs):keptR N bs=mB N bs:=by
 unfold keptR mB aG
 have e:List.replicate 128 (0:Int)=List.replicate N 0++List.replicate (128-N) 0:=by rw[List.replicate_append_replicate];congr 1;omega
 rw[e,show((N:Int)+1).toNat=N+1 by omega,openedGo_pad hv _ _ (by simp)];simp
theorem matrix_dist {N:Nat} {bs:List Bd} {t:List Int} (HO:NetOk N bs t) (ht:aG N bs=some t) {a b:Nat} (ha:a<N) (hb:b<N) :
 ((mget (matrixP N bs) a b).ok=true∧aF N bs a b<aC∧(mget (matrixP N bs) a b).s=aF N bs a b)∨((mget (matrixP N bs) a b).ok=false∧aF N bs a b=aC):=by
 have h1:=(matrixP_ok HO.valid HO.noNeg).2 a b ha hb;have h2:=(HO.row ha).2 b hb;unfold aF;rw[eB ht]
 rcases h1 with ⟨k1,k2⟩|⟨k1,k2⟩
 ·rcases h2 with ⟨q1,q2⟩|⟨q1,q2⟩
  ·exact .inl ⟨k1,q1,k2.unique q2⟩
  ·exact(k2.not_none q2).elim
 ·rcases h2 with ⟨q1,q2⟩|⟨q1,q2⟩
  ·exact(q2.not_none k2).elim
  ·exact .inr ⟨k1,q1⟩
def frV (f:Fr):Int:=if f.ok=true then f.s else 0
def spanR (d:List (List Fr)) (a b:Nat):Sp:=⟨-frV (mget d b a),frV (mget d a b),(mget d b a).ok,(mget d a b).ok⟩
theorem frV_dist {N:Nat} {bs:List Bd} {t:List Int} (HO:NetOk N bs t) (ht:aG N bs=some t) {a b:Nat} (ha:a<N) (hb:b<N) :
 frV (mget (matrixP N bs) a b)=nV (aF N bs a b)∧(mget (matrixP N bs) a b).ok=nB (aF N bs a b):=by
 unfold frV nV nB
 rcases matrix_dist HO ht ha hb with ⟨h1,h2,h3⟩|⟨h1,h2⟩
 ·unfold aC at h2
  rw[h1,h3,if_pos rfl,if_neg (by omega)];simp[h2]
 ·unfold aC at h2
  rw[h1,h2];simp
theorem spanR_eq {N:Nat} {bs:List Bd} {t:List Int} (HO:NetOk N bs t) (ht:aG N bs=some t) {a b:Nat} (ha:a<N) (hb:b<N) :
 spanR (matrixP N bs) a b=BU (aF N bs a b) (aF N bs b a):=by
 unfold spanR BU;rw[(frV_dist HO ht ha hb).1,(frV_dist HO ht ha hb).2,(frV_dist HO ht hb ha).1,(frV_dist HO ht hb ha).2]
theorem askedE_of {N:Int} {bs:List Bd} (l:List Int) (h:aO N bs=0):bc N bs l=if ek N l≠0 then ek N l else if mB N bs=true then 0 else 10:=by
 unfold bc mB;rw[if_neg (by simp[h])]
 split
 ·rfl
 ·cases aG N bs<;>simp
end Go.Proofs.YtkhemfnlflbniaaGreatDoor
namespace Go.Proofs.YtkhemfnlflbniaaGreatDoor
open Go Go.RowKit Go.Shelf Go.Proofs.Tryz
theorem refwithin_at {n a b:Int} {r:Bool} (h:bm n a b=r) (w:World):Calls prog 244 #[.int .i64 n,.int .i64 a,.int .i64 b] w fun e w'=>e=.returned (.bool r)∧w=w':=by
 rw[←h];exact refwithin_any n a b w
theorem checkP_bad {N:Int} {bs:List Bd} (h1:¬128<N) (h2:¬2000<bs.length) (h3:¬N<1) {k:Nat} (hk:k<bs.length) (hb:nJ N bs[k]=true):aO N bs=1:=by
 rw[aO,if_neg (by omega),eI,if_neg h3,gX hk hb];rfl
theorem refcheck_any (w:World) (N:Int) (a:Option Addr) (cap:Nat) (bs:List Bd) (hN:bK N) (hl:bs.length≤9223372036854775807) (h:BoundsAt w a bs) :
 Calls prog 181 #[.agg #[.int .i64 N,.slice a bs.length cap]] w fun e w'=>e=.returned (.int .i64 (aO N bs))∧Below w.heap.size w w':=by
 unfold bK at hN
 by_cases h1:128<N
 ·have e:aO N bs=2:=by simp[aO,h1]
  have E:=aa e
  have hd:decide (N>128)=true:=by simpa using h1
  clear e;go_enter func181,ntmps181;go_wp2;go_ret;exact⟨by rw[E.out];rfl,by go_grown⟩
 have hd1:decide (N>128)=false:=by simpa using h1
 by_cases h2:2000<bs.length
 ·have e:aO N bs=2:=by simp[aO,h2]
  have E:=aa e
  have hd:decide ((bs.length:Int)>2000)=true:=by simp;omega
  clear e;go_enter func181,ntmps181;go_wp2;go_ret;exact⟨by rw[E.out];rfl,by go_grown⟩
 have hd2:decide ((bs.length:Int)>2000)=false:=by simp;omega
 by_cases h3:N<1
 ·have e:aO N bs=1:=by rw[aO,if_neg (by omega),eI,if_pos h3]
  have E:=aa e;clear e;go_enter func181,ntmps181;go_wp2;go_ret;exact⟨by rw[E.out];rfl,by go_grown⟩
 have hw1:IntKind.i64.wrap (N-1)=N-1:=IntWalk.i64_in _ (by omega);go_enter func181,ntmps181;go_wp2
 go_loopw [3] (fun i wr=>∃k:Nat,k≤bs.length∧i=.int .i64 k∧Hid ((bs.take k).any (nJ N)=false)∧Hid (wr.heap[w.heap.size]?=some (.cells #[.int .i64 N,.slice a bs.length cap] 61 (0,0)))∧Below w.heap.size w wr)
  (fun i _=>bs.length-(intOf i).toNat)
 case atStart=>exact⟨0,by omega,rfl,aa rfl,aa (heap_alloc_new _ _),by go_grown⟩
 case round =>
  obtain⟨k,hk,rfl,HA,HS,hb⟩:=hrel;have hc0:wr.cell? ⟨w.heap.size,0,none⟩=some (.int .i64 N):=bu HS.out rfl;have hc1:wr.cell? ⟨w.heap.size,1,none⟩=some (.slice a bs.length cap):=bu HS.out rfl;have hsz:w.heap.size<wr.heap.size:=lt_of_block HS.out
  by_cases hlt:k<bs.length
  ·obtain⟨b,off,rfl,hbl,hcs⟩:=h.at hlt
   obtain⟨c0,c1,c2,c3⟩:=hcs.below hb hbl;obtain⟨x,hx⟩:=ag (bs[k]);rw[hx] at c0 c1 c2 c3
   have hbad:nJ N bs[k]=(!bm x.src 0 (N-1)||!bm x.dst 0 (N-1)||x.src==x.dst||!bm x.most (-1000000) 1000000||!bm x.rcd 0 1000000):=by rw[hx];rfl
   obtain⟨r1,q1⟩:=ag (bm x.src 0 (N-1));obtain⟨r2,q2⟩:=ag (bm x.dst 0 (N-1));obtain⟨r3,q3⟩:=ag (bm x.most (-1000000) 1000000);obtain⟨r4,q4⟩:=ag (bm x.rcd 0 1000000);rw[q1,q2,q3,q4] at hbad;have HH:=aa h;have HB:=aa hbad;have Q1:=aa q1;have Q2:=aa q2;have Q3:=aa q3;have Q4:=aa q4;obtain⟨xs,xd,xm,xr⟩:=x;simp only at c0 c1 c2 c3;clear hcs h hx hbad q1 q2 q3 q4
   have stay:nJ N bs[k]=false→∃k':Nat,k'≤bs.length∧Value.int .i64 ((k:Int)+1)=.int .i64 k'∧Hid ((bs.take k').any (nJ N)=false):=fun hf=>⟨k+1,by omega,by go_num,aa (bR hlt HA.out hf)⟩
   have ST:=aa stay;have CB:=aa (fun hf:nJ N bs[k]=true=>checkP_bad (by omega) (by omega) (by omega) hlt hf);clear stay
   cases r1 with
   | false =>
     go_wp2_with (go_at_call 244;first|((with_reducible refine(refwithin_at Q1.out _).mono ?_);rintro e w' ⟨rfl,rfl⟩));go_ret;exact⟨by rw[CB.out (by rw[HB.out];rfl)];rfl,by go_grown⟩
   | true =>
     cases r2 with
     | false =>
       go_wp2_with (go_at_call 244;first|((with_reducible refine(refwithin_at Q1.out _).mono ?_);rintro e w' ⟨rfl,rfl⟩)|((with_reducible refine(refwithin_at Q2.out _).mono ?_);rintro e w' ⟨rfl,rfl⟩));go_ret;exact⟨by rw[CB.out (by rw[HB.out];rfl)];rfl,by go_grown⟩
     | true =>
       cases r3 with
       | false =>
         go_wp2_with (go_at_call 244;first|((with_reducible refine(refwithin_at Q1.out _).mono ?_);rintro e w' ⟨rfl,rfl⟩)|((with_reducible refine(refwithin_at Q2.out _).mono ?_);rintro e w' ⟨rfl,rfl⟩)|((with_reducible refine(refwithin_at Q3.out _).mono ?_);rintro e w' ⟨rfl,rfl⟩));go_ret;exact⟨by rw[CB.out (by rw[HB.out];simp)];rfl,by go_grown⟩
       | true =>
         cases r4 with
         | false =>
           go_wp2_with (go_at_call 244;first|((with_reducible refine(refwithin_at Q1.out _).mono ?_);rintro e w' ⟨rfl,rfl⟩)|((with_reducible refine(refwithin_at Q2.out _).mono ?_);rintro e w' ⟨rfl,rfl⟩)|((with_reducible refine(refwithin_at Q3.out _).mono ?_);rintro e w' ⟨rfl,rfl⟩)|((with_reducible refine(refwithin_at Q4.out _).mono ?_);rintro e w' ⟨rfl,rfl⟩));go_ret;exact⟨by rw[CB.out (by rw[HB.out];simp)];rfl,by go_grown⟩
         | true =>
           by_cases he:xs=xd
           ·have hbe:(xs==xd)=true:=by simpa using he
            have HBE:=aa hbe;go_wp2_with (go_at_call 244;first|((with_reducible refine(refwithin_at Q1.out _).mono ?_);rintro e w' ⟨rfl,rfl⟩)|((with_reducible refine(refwithin_at Q2.out _).mono ?_);rintro e w' ⟨rfl,rfl⟩)|((with_reducible refine(refwithin_at Q3.out _).mono ?_);rintro e w' ⟨rfl,rfl⟩)|((with_reducible refine(refwithin_at Q4.out _).mono ?_);rintro e w' ⟨rfl,rfl⟩));go_ret;exact⟨by rw[CB.out (by rw[HB.out,HBE.out];simp)];rfl,by go_grown⟩
           ·have hbe:(xs==xd)=false:=by simpa using he
            have HBE:=aa hbe;go_wp2_with (go_at_call 244;first|((with_reducible refine(refwithin_at Q1.out _).mono ?_);rintro e w' ⟨rfl,rfl⟩)|((with_reducible refine(refwithin_at Q2.out _).mono ?_);rintro e w' ⟨rfl,rfl⟩)|((with_reducible refine(refwithin_at Q3.out _).mono ?_);rintro e w' ⟨rfl,rfl⟩)|((with_reducible refine(refwithin_at Q4.out _).mono ?_);rintro e w' ⟨rfl,rfl⟩));go_roundw
            case rel =>
             obtain⟨k',g1,g2,g3⟩:=ST.out (by rw[HB.out,HBE.out];rfl);exact⟨k',g1,g2,g3,aa ((Below.heap_alloc _ _ _ hsz).trans HS.out),by go_grown⟩
            case measure=>simp[intOf];omega
  ·have e:aO N bs=0:=by rw[aO,if_neg (by omega),eI,if_neg (by omega),cD (by omega) HA.out];rfl
   have E:=aa e;clear e;go_wp2;go_ret;exact⟨by rw[E.out];rfl,hb⟩
end Go.Proofs.YtkhemfnlflbniaaGreatDoor
namespace Go.Proofs.YtkhemfnlflbniaaGreatDoor
def normR (d:Int):Int:=if d.tmod 360<0 then d.tmod 360+360 else d.tmod 360
theorem normR_eq (d:Int):normR d=cz d:=by
 rw[nt];unfold normR
 have h1:d.tmod 360=if 0≤d then d%360 else -(-d%360):=by
  split
  ·rename_i h;exact Int.tmod_eq_emod_of_nonneg h
  ·rename_i h
   rw[←Int.tmod_eq_emod_of_nonneg (a:=-d) (by omega),Int.neg_tmod,Int.neg_neg]
 rw[h1]
 split<;>split<;>omega
def rootBit (n:Int):Nat→Int→Int
 | 0,r=>r
 | b+1,r=>if r+2^b≤3037000499∧(r+2^b)*(r+2^b)≤n then rootBit n b (r+2^b) else rootBit n b r
theorem rootBit_is {n:Int} (hn:n≤9223372030926249000):∀(b:Nat) (r:Int),0≤r→(r=0∨r*r≤n)→n<(r+2^b)*(r+2^b)→rz n (rootBit n b r)
 | 0,r,h0,h1,h2=>⟨h0,h1,by unfold rootBit;simpa using h2⟩
 | b+1,r,h0,h1,h2=>by
   unfold rootBit;have hp:(0:Int)<2^b:=Int.pow_pos (by omega)
   split
   ·rename_i q
    refine rootBit_is hn b _ (by omega) (.inr q.2) ?_;rw[show r+2^b+2^b=r+2^(b+1) by rw[Int.pow_succ];omega];exact h2
   ·rename_i q
    refine rootBit_is hn b r h0 h1 ?_
    apply Classical.byContradiction
    intro q2;refine q ⟨?_,by omega⟩
    apply Classical.byContradiction
    intro q3;have:(3037000500:Int)*3037000500≤(r+2^b)*(r+2^b):=Int.mul_le_mul (by omega) (by omega) (by omega) (by omega);omega
theorem root_ref {n:Int} (hn:n≤9223372030926249000):(if n<1 then 0 else rootBit n 32 0)=fC n:=by
 refine pn ?_ (nT hn)
 split
 ·exact⟨by omega,.inl rfl,by omega⟩
 ·exact rootBit_is hn 32 0 (by omega) (.inl rfl) (by rw[show(2:Int)^32=4294967296 from by decide];omega)
theorem rootP_nonneg {n:Int} (h:n≤9223372030926249000):0≤fC n:=(nT h).1
theorem rootUp_ref {n:Int} (hn:n≤9223372030926249000):(if 0<n∧fC n*fC n<n then fC n+1 else fC n)=fG n:=by
 unfold fG
 by_cases h:fC n*fC n<n
 ·have h0:0≤fC n*fC n:=Int.mul_nonneg (rootP_nonneg hn) (rootP_nonneg hn)
  rw[if_pos ⟨by omega,h⟩,if_pos h]
 ·rw[if_neg (fun q=>h q.2),if_neg h]
theorem rootUp_nonneg {n:Int} (h:n≤9223372030926249000):0≤fG n:=by
 unfold fG;have:=rootP_nonneg h
 split<;>omega
theorem declGo_app (year:Int) (v:Vrn):∀(l:List Vrn) (r:Option Int),jL year (l++[v]) r=if v.year≤year then some v.east else jL year l r
 | [],_=>rfl
 | u::l,r=>by
   rw[List.cons_append];unfold jL;rw[declGo_app year v l]
def midR (c:Crs) (east:Int):Int:=if 269<normR (c.bearing+east) then normR (c.bearing+east)-360 else normR (c.bearing+east)
theorem mid_ref (c:Crs) (east:Int):midR c east=eH c east:=by
 unfold midR eH;rw[normR_eq,nt,nt]
 split<;>omega
def floorR (a b:Int):Int:=if a<a.tdiv b*b then a.tdiv b-1 else a.tdiv b
theorem floor_ref {a b:Int} (_hb:0<b):floorR a b=cY a b:=by
 unfold floorR cY;have:=Int.mul_tdiv_add_tmod a b;rw[Int.mul_comm] at this
 by_cases h:a<a.tdiv b*b
 ·rw[if_pos h,if_pos (by omega)]
 ·rw[if_neg h,if_neg (by omega)]
def fitR (c:Crs) (east dx:Int):Option (Int×Int) :=
 let lo:=midR c east-c.needle
 let hi:=midR c east+c.needle
 if hi≤0∨180≤lo then none else
 let b1:=if 0<lo then min 100000 (floorR (dx*ju lo) (gJ lo)) else 100000
 let a1:=if hi<180 then max (-100000) (-floorR (-dx*ju hi) (gJ hi)) else -100000
 let room:=floorR (c.far*c.far) 100000000-dx*dx
 if room<0 then none else
 let b2:=min b1 (fC room)
 let a2:=max a1 (-fC room)
 let short:=-floorR (-(c.near)*c.near) 100000000-dx*dx
 let a3:=if hi≤90 then max a2 (fG short) else a2
 let b3:=if 90≤lo then min b2 (-fG short) else b2
 if b3<a3 then none else some (a3,b3)
theorem fit_ref {c:Crs} (hc:c.ok=true) (east dx:Int) (hd0:0<dx) (hd1:dx≤100000):fitR c east dx=vQ c east dx:=by
 have hc2:=hc;rw[Crs.ok_iff] at hc2;unfold fitR vQ;rw[mid_ref];have hm:=wh c east;obtain⟨m,hmm⟩:=ag (eH c east);rw[hmm] at hm ⊢
 by_cases h0:m+c.needle≤0∨180≤m-c.needle
 ·simp only[if_pos h0]
 simp only[if_neg h0];rw[floor_ref (by omega)]
 have e1:(if 0<m-c.needle then min 100000 (floorR (dx*ju (m-c.needle)) (gJ (m-c.needle))) else 100000)=if 0<m-c.needle then min 100000 (cY (dx*ju (m-c.needle)) (gJ (m-c.needle))) else 100000:=by
  split
  ·rename_i h;rw[floor_ref (by have:=sg h (by omega);omega)]
  ·rfl
 have e2:(if m+c.needle<180 then max (-100000) (-floorR (-dx*ju (m+c.needle)) (gJ (m+c.needle))) else -100000)=if m+c.needle<180 then max (-100000) (gu (dx*ju (m+c.needle)) (gJ (m+c.needle))) else -100000:=by
  split
  ·rename_i h
   unfold gu;rw[floor_ref (by have:=sg (by omega) h;omega),Int.neg_mul]
  ·rfl
 rw[e1,e2];obtain⟨rm,hrm⟩:=ag (cY (c.far*c.far) 100000000-dx*dx);rw[hrm]
 by_cases h1:rm<0
 ·rw[if_pos h1,if_pos h1]
 rw[if_neg h1,if_neg h1]
 have hsh:-floorR (-c.near*c.near) 100000000-dx*dx=gu (c.near*c.near) 100000000-dx*dx:=by
  unfold gu;rw[floor_ref (by omega),Int.neg_mul]
 rw[hsh];have hb:=c.len_bd hc
 have hfar:rm≤9223372030926249000:=by
  have q:c.far*c.far≤1070000000*1070000000:=Int.mul_le_mul (by omega) (by omega) (by omega) (by omega);have q0:0≤c.far*c.far:=Int.mul_nonneg (by omega) (by omega);have q1:0≤dx*dx:=Int.mul_nonneg (by omega) (by omega);unfold cY at hrm;rw[Int.tdiv_eq_ediv_of_nonneg q0] at hrm
  split at hrm<;>omega
 have hr0:=rootP_nonneg hfar
 have hnear:gu (c.near*c.near) 100000000-dx*dx≤9223372030926249000:=by
  have q:c.near*c.near≤1070000000*1070000000:=Int.mul_le_mul (by omega) (by omega) (by omega) (by omega);have q0:0≤c.near*c.near:=Int.mul_nonneg (by omega) (by omega);have q1:0≤dx*dx:=Int.mul_nonneg (by omega) (by omega);unfold gu cY;rw[Int.neg_tdiv,Int.tdiv_eq_ediv_of_nonneg q0]
  split<;>omega
 have hu0:=rootUp_nonneg hnear;obtain⟨R,hR⟩:=ag (fC rm);obtain⟨U,hU⟩:=ag (fG (gu (c.near*c.near) 100000000-dx*dx));rw[hR] at hr0 ⊢;rw[hU] at hu0 ⊢;obtain⟨fl,hfl⟩:=ag (cY (dx*ju (m-c.needle)) (gJ (m-c.needle)));obtain⟨ce,hce⟩:=ag (gu (dx*ju (m+c.needle)) (gJ (m+c.needle)))
 have h90:m-c.needle=90→m+c.needle=90→fl=0∧ce=0:=fun p q=>by
  have hs:gJ 90=10000:=by decide +kernel
  have hk:ju 90=0:=by decide +kernel
  rw[p,hs,hk,Int.mul_zero] at hfl;rw[q,hs,hk,Int.mul_zero] at hce;exact⟨by rw[←hfl];decide,by rw[←hce];decide⟩
 rw[hfl,hce]
 have fin:∀a b a' b':Int,(b<a↔b'<a')→(¬b<a→a=a'∧b=b')→(if b<a then(none:Option (Int×Int)) else some (a,b))=if b'<a' then none else some (a',b'):=by
  intro a b a' b' h1 h2
  by_cases q:b<a
  ·rw[if_pos q,if_pos (h1.1 q)]
  ·rw[if_neg q,if_neg (fun z=>q (h1.2 z))]
   obtain⟨rfl,rfl⟩:=h2 q
   rfl
 apply fin
 ·by_cases a1:0<m-c.needle<;>by_cases a2:m+c.needle<180<;>by_cases a3:m+c.needle≤90<;>by_cases a4:90≤m-c.needle<;>simp only[a1,a2,a3,a4,if_true,if_false]<;>(try (have:=h90 (by omega) (by omega)))<;>omega
 ·by_cases a1:0<m-c.needle<;>by_cases a2:m+c.needle<180<;>by_cases a3:m+c.needle≤90<;>by_cases a4:90≤m-c.needle<;>simp only[a1,a2,a3,a4,if_true,if_false]<;>(try (have:=h90 (by omega) (by omega)))<;>omega
end Go.Proofs.YtkhemfnlflbniaaGreatDoor
namespace Go.Proofs.YtkhemfnlflbniaaGreatDoor
open Go Go.RowKit Go.Shelf Go.Proofs.Tryz
def yearTo (l:List Vrn) (k:Nat):Int:=if k=0 then 0 else(l.getD (k-1) ⟨0,0⟩).year
theorem flatMap_len {α:Type} {k:Nat} {f:α→List Value} (hf:∀x,(f x).length=k):∀l:List α,(l.flatMap f).length=l.length*k
 | []=>by simp
 | x::l=>by rw[List.flatMap_cons,List.length_append,hf,flatMap_len hf l,List.length_cons,Nat.succ_mul,Nat.add_comm]
theorem refconsistent_any (w:World) (R:Nat) (a:Option Addr) (cap:Nat) (bs:List Bd) (hN0:1≤R) (hN1:R≤128) (hl:bs.length≤4000) (h:BoundsAt w a bs) (hv:au R bs) :
 Calls prog 182 #[.agg #[.int .i64 (R:Int),.slice a bs.length cap]] w fun e w'=>e=.returned (.bool (keptR R bs))∧Below w.heap.size w w':=by
 have H:=aa h;have HV:=aa hv;clear h hv;obtain⟨G,hG⟩:=ag (bV bs (R+1) (List.replicate R 0))
 have hk:keptR R bs=G.isSome:=by unfold keptR;rw[hG]
 have HG:=aa hG;have HK:=aa hk;clear hG hk
 have hmk3:=fun W=>run_make_row' (P:=prog) 52 3 (.int .i64 0) 8 underlying52 zl rfl .i64 .i64 R (by omega) (by omega) W
 go_enter func182,ntmps182;go_wp2_with fail;have s0:Hid ((w.alloc (.cells #[.int .i64 (R:Int),.slice a bs.length cap] 61)).alloc (.cells (madeCells #[.int .i64 0] R) 3)=(w.alloc (.cells #[.int .i64 (R:Int),.slice a bs.length cap] 61)).alloc (.cells (bt (List.replicate R 0)) 3)):=aa (by rw[su])
 go_loopw [4] (fun i wr=>∃(r:Nat) (h:List Int),r≤R+1∧i=.int .i64 r∧Hid (bV bs (R+1-r) h=G)∧Hid (h.length=R)∧Hid (LowBy (r*bs.length) h) ∧
  Hid (wr.heap[w.heap.size]?=some (.cells #[.int .i64 (R:Int),.slice a bs.length cap] 61 (0,0)))∧Hid (wr.heap[w.heap.size+1]?=some (.cells (bt h) 3 (0,0)))∧Below w.heap.size w wr)
  (fun i _=>R+1-(intOf i).toNat)
 case atStart=>exact⟨0,List.replicate R 0,by omega,rfl,HG,aa (by simp),aa (by rw[Nat.zero_mul];exact mF R),aa (by rw[Below.heap_alloc _ _ _ (by simp),heap_alloc_new]),aa (by rw[s0.out,af _ _ _ (by simp)]),by go_grown⟩
 case round =>
  obtain⟨r,h,hr,rfl,hgo,HL,hlow,H1,H2,hb⟩:=hrel;clear hmk3 s0;have c0:wr.cell? ⟨w.heap.size,0,none⟩=some (.int .i64 (R:Int)):=bu H1.out rfl;have c1:wr.cell? ⟨w.heap.size,1,none⟩=some (.slice a bs.length cap):=bu H1.out rfl
  by_cases hlt:r<R+1
  ·have hrL:r*bs.length≤128*4000:=Nat.mul_le_mul (by omega) hl
   have hdec:decide (r≤R)=true:=by simp;omega
   go_wp2_with fail
   go_loopw [5,6] (fun c i wr=>∃(k:Nat) (h':List Int) (ch:Bool),k≤bs.length∧i=.int .i64 k∧c=.bool ch∧Hid ((bs.take k).foldl bp (h,false)=(h',ch))∧Hid (h'.length=R)∧Hid (LowBy (r*bs.length+k) h') ∧
    Hid (wr.heap[w.heap.size]?=some (.cells #[.int .i64 (R:Int),.slice a bs.length cap] 61 (0,0)))∧Hid (wr.heap[w.heap.size+1]?=some (.cells (bt h') 3 (0,0)))∧Below w.heap.size w wr)
    (fun _ i _=>bs.length-(intOf i).toNat)
   case atStart=>exact⟨0,h,false,by omega,rfl,rfl,aa rfl,HL,hlow,H1,H2,hb⟩
   case round =>
    clear c0 c1;obtain⟨k,h',ch,hk,rfl,rfl,HF,HL',HW,H1',H2',hb'⟩:=hrel;have c1:wr.cell? ⟨w.heap.size,1,none⟩=some (.slice a bs.length cap):=bu H1'.out rfl
    by_cases hlt':k<bs.length
    ·obtain⟨b,off,rfl,hbl,hcs⟩:=H.out.at hlt'
     obtain⟨d0,d1,d2,d3⟩:=hcs.below hb' hbl;have hval:=HV.out bs[k] (List.getElem_mem hlt');obtain⟨x,hx⟩:=ag (bs[k]);rw[hx] at d0 d1 d2 d3 hval;have HX:=aa hx;clear hx hcs;obtain⟨xs,xd,xm,xr⟩:=x;obtain⟨v1,v2,v3,v4,v5,v6⟩:=hval;simp only at d0 d1 d2 d3 v1 v2 v3 v4 v5 v6;obtain⟨si,rfl⟩:=Int.eq_ofNat_of_zero_le v1;obtain⟨di,rfl⟩:=Int.eq_ofNat_of_zero_le v3;have hsz:w.heap.size+1<wr.heap.size:=lt_of_block H2'.out
     have hs128:si<h'.length:=by rw[HL'.out];omega
     have hd128:di<h'.length:=by rw[HL'.out];omega
     have cs:wr.cell? ⟨w.heap.size+1,si,none⟩=some (.int .i64 (h'.getD si 0)):=by rw[cell_of_row _ _ _ _ _ _ H2'.out,dE hs128]
     have cd:wr.cell? ⟨w.heap.size+1,di,none⟩=some (.int .i64 (h'.getD di 0)):=by rw[cell_of_row _ _ _ _ _ _ H2'.out,dE hd128]
     have fd:wr.frozen? ⟨w.heap.size+1,di,none⟩=false:=frozen_of_row _ _ _ _ _ H2'.out;have bs1:=HW.out si;have bd1:=HW.out di;obtain⟨vs,hvs⟩:=ag (h'.getD si 0);obtain⟨vd,hvd⟩:=ag (h'.getD di 0);rw[hvs] at cs bs1;rw[hvd] at cd bd1;have HVS:=aa hvs;have HVD:=aa hvd
     have s1:(si:Int)<R:=by omega
     have d1':(di:Int)<R:=by omega
     have hww:IntKind.i64.wrap (vs+xm)=vs+xm:=IntWalk.i64_in _ (by omega);clear hvs hvd hs128 hd128
     by_cases hlow:vs+xm<vd
     ·have hdl:decide (vs+xm<vd)=true:=by simpa using hlow
      go_wp2_with fail
      go_quiet (fail)
      obtain⟨Y,hY⟩:∃Y,Y=(wr.alloc (Obj.cells #[.int .i64 (si:Int),.int .i64 (di:Int),.int .i64 xm,.int .i64 xr] 65)).drewN nq:=⟨_,rfl⟩;rw[←hY]
      have y7:Y.heap[wr.heap.size]?=some (.cells #[.int .i64 (si:Int),.int .i64 (di:Int),.int .i64 xm,.int .i64 xr] 65 (0,0)):=by rw[hY];exact heap_alloc_new _ _
      have yh9Q:Y.heap[w.heap.size+1]?=some (.cells (bt h') 3 (0,0)):=by rw[hY];exact(Below.heap_alloc _ _ _ hsz).trans H2'.out
      have yb:Y.heap[w.heap.size]?=some (.cells #[.int .i64 (R:Int),.slice (some ⟨b,off,none⟩) bs.length cap] 61 (0,0)):=by rw[hY];exact(Below.heap_alloc _ _ _ (by omega)).trans H1'.out
      have yB:Below w.heap.size w Y:=by rw[hY];exact(hb'.alloc hb'.size _).trans (aA _ _)
      have z0:Y.cell? ⟨wr.heap.size,0,none⟩=some (.int .i64 (si:Int)):=bu y7 rfl;have z1:Y.cell? ⟨wr.heap.size,1,none⟩=some (.int .i64 (di:Int)):=bu y7 rfl;have z2:Y.cell? ⟨wr.heap.size,2,none⟩=some (.int .i64 xm):=bu y7 rfl
      have zs:Y.cell? ⟨w.heap.size+1,si,none⟩=some (.int .i64 vs):=by rw[cell_of_row _ _ _ _ _ _ yh9Q,dE (by rw[HL'.out];omega),HVS.out]
      have zd:Y.cell? ⟨w.heap.size+1,di,none⟩=some (.int .i64 vd):=by rw[cell_of_row _ _ _ _ _ _ yh9Q,dE (by rw[HL'.out];omega),HVD.out]
      have zf9Q:Y.frozen? ⟨w.heap.size+1,di,none⟩=false:=frozen_of_row _ _ _ _ _ yh9Q;have YH:=aa yh9Q;have YB:=aa yb;have YBB:=aa yB;clear hY y7 yh9Q yb yB cs cd fd d0 d1 d2 d3;go_upto_region 11 with fail
      go_still_tail 12,(by kernel_rfl)
      go_wp2_with fail;go_roundw
      case rel =>
       refine⟨k+1,h'.set di (vs+xm),true,by omega,by go_num,rfl,aa ?_,aa (by rw[List.length_set];exact HL'.out),aa ?_,aa ?_,aa ?_,?_⟩
       ·rw[d9 _ _ _ hlt',HF.out,HX.out]
        unfold bp;rw[if_pos]
        ·simp only[az,Int.toNat_natCast,HVS.out]
        ·simp only[az,Int.toNat_natCast,HVS.out,HVD.out];omega
       ·have hl1:=oM (c:=r*bs.length+k) (s:=(h',ch)) (HV.out _ (List.getElem_mem hlt')) HW.out
        rw[HX.out] at hl1;unfold bp at hl1;rw[if_pos (by simp only[az,Int.toNat_natCast,HVS.out,HVD.out];omega)] at hl1;simp only[az,Int.toNat_natCast,HVS.out] at hl1;exact hl1
       ·exact(heap_setCell_other _ _ _ _ (by simp)).trans YB.out
       ·exact(heap_setCell_same _ _ _ _ _ _ YH.out).trans (by rw[i4])
       ·exact YBB.out.drew.setCell (by simp) _
      case measure=>simp[intOf];omega
     ·have hdl:decide (vs+xm<vd)=false:=by simpa using hlow
      go_wp2_with fail
      go_quiet (fail)
      go_wp2_with fail;go_roundw
      case rel =>
       refine⟨k+1,h',ch,by omega,by go_num,rfl,aa ?_,HL',aa (HW.out.mono (by omega)),aa ?_,aa ?_,?_⟩
       ·rw[d9 _ _ _ hlt',HF.out,HX.out]
        unfold bp;rw[if_neg]
        simp only[az,Int.toNat_natCast,HVS.out,HVD.out];omega
       ·exact(Below.heap_alloc _ _ _ (by omega)).trans H1'.out
       ·exact(Below.heap_alloc _ _ _ hsz).trans H2'.out
       ·exact(hb'.alloc hb'.size _).trans (aA _ _)
      case measure=>simp[intOf];omega
    ·have hek:(bs.take k).foldl bp (h,false)=gM bs h:=by rw[List.take_of_length_le (by omega)];rfl
     have hF:=HF.out;rw[hek] at hF;have HF2:=aa hF;clear hF hek
     cases ch with
     | true =>
       go_wp2_with fail;go_roundw
       case rel =>
        refine⟨r+1,h',by omega,by go_num,aa ?_,HL',aa (HW.out.mono (by rw[Nat.succ_mul];omega)),H1',H2',hb'⟩
        rw[←hgo.out,show R+1-r=(R+1-(r+1))+1 by omega,bV,HF2.out];rfl
       case measure=>simp[intOf];omega
     | false =>
       have hg:G=some h':=by rw[←hgo.out,show R+1-r=(R+1-(r+1))+1 by omega,bV,HF2.out];rfl
       have HG2:=aa hg;clear hg;go_wp2_with fail;go_ret;exact⟨by rw[HK.out,HG2.out];rfl,hb'⟩
  ·have hdec:decide (r≤R)=false:=by simp;omega
   go_wp2_with fail;go_ret
   have e:R+1-r=0:=by omega
   have hg:=hgo.out;rw[e] at hg;exact⟨by rw[HK.out,←hg];rfl,hb⟩
theorem lesser_at (w:World) (xs ys:Int) (xo yo9Q:Bool):Calls prog 176 #[.agg #[.int .i64 xs,.bool xo],.agg #[.int .i64 ys,.bool yo9Q]] w fun e w'=>e=.returned (.agg #[.int .i64 (qT ⟨xs,xo⟩ ⟨ys,yo9Q⟩).s,.bool (qT ⟨xs,xo⟩ ⟨ys,yo9Q⟩).ok])∧Below w.heap.size w w':=by
 cases xo with
 | false =>
   have hr:qT ⟨xs,false⟩ ⟨ys,yo9Q⟩=⟨ys,yo9Q⟩:=by unfold qT;rw[if_pos (.inl rfl)]
   have HR:=aa hr;clear hr;go_enter func176,ntmps176;go_wp2_with fail;exact bodyPost_ret (v:=.agg #[.int .i64 ys,.bool yo9Q]) (by simp[results,results176,go_sem]) rfl ⟨by rw[HR.out],by go_grown⟩
 | true =>
   cases yo9Q with
   | false =>
     have hr:qT ⟨xs,true⟩ ⟨ys,false⟩=⟨xs,true⟩:=by unfold qT;rw[if_neg (by simp)]
     have HR:=aa hr;clear hr;go_enter func176,ntmps176;go_wp2_with fail;exact bodyPost_ret (v:=.agg #[.int .i64 xs,.bool true]) (by simp[results,results176,go_sem]) rfl ⟨by rw[HR.out],by go_grown⟩
   | true =>
     by_cases hlt:ys<xs
     ·have hr:qT ⟨xs,true⟩ ⟨ys,true⟩=⟨ys,true⟩:=by unfold qT;rw[if_pos (.inr ⟨rfl,hlt⟩)]
      have hd:decide (ys<xs)=true:=by simpa using hlt
      have HR:=aa hr;clear hr;go_enter func176,ntmps176;go_wp2_with fail;exact bodyPost_ret (v:=.agg #[.int .i64 ys,.bool true]) (by simp[results,results176,go_sem]) rfl ⟨by rw[HR.out],by go_grown⟩
     ·have hr:qT ⟨xs,true⟩ ⟨ys,true⟩=⟨xs,true⟩:=by unfold qT;rw[if_neg (by simp;omega)]
      have hd:decide (ys<xs)=false:=by simpa using hlt
      have HR:=aa hr;clear hr;go_enter func176,ntmps176;go_wp2_with fail;exact bodyPost_ret (v:=.agg #[.int .i64 xs,.bool true]) (by simp[results,results176,go_sem]) rfl ⟨by rw[HR.out],by go_grown⟩
theorem plus_at (w:World) (xs:Int) (xo:Bool) (n:Int) (h1:-4000000000000000000≤xs) (h2:xs≤4000000000000000000) (h3:-4000000000000000000≤n) (h4:n≤4000000000000000000) :
 Calls prog 177 #[.agg #[.int .i64 xs,.bool xo],.int .i64 n] w fun e w'=>e=.returned (.agg #[.int .i64 (xs+n),.bool xo])∧Below w.heap.size w w':=by
 have hw:IntKind.i64.wrap (xs+n)=xs+n:=IntWalk.i64_in _ (by omega);go_enter func177,ntmps177;go_wp2_with fail;exact bodyPost_ret (v:=.agg #[.int .i64 (xs+n),.bool xo]) (by simp[results,results177,go_sem]) rfl ⟨rfl,by go_grown⟩
theorem askedE_points {N:Int} {bs:List Bd} {l:List Int} (hc:aO N bs=0) {p:Int} (hp:p∈l) (h:p<0∨N≤p):bc N bs l=1:=by
 have hz:ek N l=1:=by
  unfold ek;rw[if_pos];refine List.any_eq_true.2 ⟨p,hp,?_⟩
  cases hq:bm p 0 (N-1) with
  | false=>rfl
  | true=>have:=kB.1 hq;omega
 unfold bc;rw[if_neg (by simp[hc]),if_pos (by rw[hz];decide),hz]
theorem askedE_fine {N:Int} {bs:List Bd} {l:List Int} (hc:aO N bs=0) (h:∀p∈l,0≤p∧p<N):bc N bs l=if mB N bs=true then 0 else 10:=by
 have hz:ek N l=0:=by
  unfold ek;rw[if_neg];intro hq;obtain⟨p,hp,h1⟩:=List.any_eq_true.1 hq;have:=h p hp;rw[kB.2 (by omega)] at h1;simp at h1
 rw[askedE_of l hc,if_neg (by simp[hz])]
theorem pointed_any (w:World) (N:Int) (a:Option Addr) (cap:Nat) (bs:List Bd) (a2:Option Addr) (cap2:Nat) (l:List Int) (hN:bK N) (hl:bs.length≤9223372036854775807) (hl2:l.length≤1000) (h:BoundsAt w a bs) (h2:IntsAt w a2 l) :
 Calls prog 195 #[.agg #[.int .i64 N,.slice a bs.length cap],.slice a2 l.length cap2] w fun e w'=>e=.returned (.int .i64 (bc N bs l))∧Below w.heap.size w w':=by
 have b0:Below w.heap.size w (w.alloc (.cells #[.int .i64 N,.slice a bs.length cap] 61)):=aD;have hck:=refcheck_any (w.alloc (.cells #[.int .i64 N,.slice a bs.length cap] 61)) N a cap bs hN hl (h.below b0 (Nat.le_refl _));have B0:=aa b0;have H:=aa h;have H2:=aa h2;clear b0 h h2
 by_cases hc:aO N bs=0
 ·obtain⟨R,rfl,r0,r1,hlen,hv⟩:=mr hc
  rw[hc] at hck;have HCK:=aa hck;have HC:=aa hc;have HV:=aa hv;clear hck hc hv hN;go_enter func195,ntmps195;go_wp2_with fail;refine HCK.out.mono ?_;rintro e w1 ⟨rfl,hb1⟩;have y0:=ac hb1 (by simp) (heap_alloc_new w (.cells #[.int .i64 (R:Int),.slice a bs.length cap] 61));have B1:=bB B0.out hb1;have Y0:=aa y0;have HB1:=aa B1;clear y0 B1 hb1;have hsz:w.heap.size<w1.heap.size:=lt_of_block Y0.out;go_wp2_with fail
  go_loopw [6] (fun i wr=>∃k:Nat,k≤l.length∧i=.int .i64 k∧Hid (∀q (hq:q<k) (hl:q<l.length),0≤l[q]∧l[q]<(R:Int))∧Hid (Below w1.heap.size w1 wr)) (fun i _=>l.length-(intOf i).toNat)
  case atStart=>exact⟨0,by omega,rfl,aa (fun q hq _=>by omega),aa (Below.refl _ _)⟩
  case round =>
   obtain⟨k,hk,rfl,HA,HB⟩:=hrel;have xr:=ac HB.out hsz Y0.out;have e0:wr.cell? ⟨w.heap.size,0,none⟩=some (.int .i64 (R:Int)):=bu xr rfl;have e1:wr.cell? ⟨w.heap.size,1,none⟩=some (.slice a bs.length cap):=bu xr rfl;have bw:Below w.heap.size w wr:=bB HB1.out HB.out
   by_cases hlt:k<l.length
   ·obtain⟨b,off,rfl,hbl,hck2⟩:=(H2.out.below bw (Nat.le_refl _)).at hlt
    obtain⟨x,hx⟩:=ag (l[k]);rw[hx] at hck2
    by_cases hneg:x<0
    ·have hd:decide (x<0)=true:=by simpa using hneg
     have ha:=askedE_points (l:=l) HC.out (p:=x) (by rw[←hx];exact List.getElem_mem hlt) (.inl hneg);have HAE:=aa ha;have BW:=aa bw;clear ha hx xr bw;go_wp2_with fail
     go_quiet (fail)
     go_wp2_with fail;go_ret;exact⟨by rw[HAE.out];rfl,BW.out.trans (aA _ _)⟩
    ·have hd:decide (x<0)=false:=by simpa using hneg
     by_cases hge:(R:Int)≤x
     ·have hd2:decide (x≥(R:Int))=true:=by simpa using hge
      have ha:=askedE_points (l:=l) HC.out (p:=x) (by rw[←hx];exact List.getElem_mem hlt) (.inr hge);have HAE:=aa ha;have BW:=aa bw;clear ha hx xr bw;go_wp2_with fail
      go_quiet (fail)
      go_wp2_with fail;go_ret;exact⟨by rw[HAE.out];rfl,BW.out.trans (aA _ _)⟩
     ·have hd2:decide (x≥(R:Int))=false:=by simp;omega
      have hstay:∀q (hq:q<k+1) (hl:q<l.length),0≤l[q]∧l[q]<(R:Int):=by
       intro q hq hl'
       by_cases e:q=k
       ·subst e;rw[hx];omega
       ·exact HA.out q (by omega) hl'
      have HST:=aa hstay;clear hstay hx xr bw;go_wp2_with fail
      go_quiet (fail)
      go_wp2_with fail;go_roundw
      case rel=>exact⟨k+1,by omega,by go_num,HST,aa (HB.out.trans (aA _ _))⟩
      case measure=>simp[intOf];omega
   ·have hall:∀p∈l,0≤p∧p<(R:Int):=fun p hp=>by
     obtain⟨q,hq,rfl⟩:=List.getElem_of_mem hp;exact HA.out q (by omega) hq
    have ha:=askedE_fine HC.out hall;have hkr:keptR R bs=mB R bs:=keptR_eq r1 HV.out;have hcon:=refconsistent_any wr R a cap bs r0 r1 (by omega) (H.out.below bw (Nat.le_refl _)) HV.out;rw[hkr] at hcon;obtain⟨c,hcc⟩:=ag (mB R bs);rw[hcc] at hcon ha;have HCON:=aa hcon;have HAE:=aa ha;have BW:=aa bw;clear hcon ha hcc hkr hall xr bw
    cases c with
    | false =>
      go_wp2_with fail;refine HCON.out.mono ?_;rintro e w3 ⟨rfl,hb3⟩;go_wp2_with fail;go_ret;exact⟨by rw[HAE.out];rfl,bB BW.out hb3⟩
    | true =>
      go_wp2_with fail;refine HCON.out.mono ?_;rintro e w3 ⟨rfl,hb3⟩;go_wp2_with fail;go_ret;exact⟨by rw[HAE.out];rfl,bB BW.out hb3⟩
 ·have ha:bc N bs l=aO N bs:=by unfold bc;rw[if_pos hc]
  obtain⟨c,hcc⟩:=ag (aO N bs);rw[hcc] at ha hc hck
  have hcb:(c != 0)=true:=by simpa using hc
  have HCK:=aa hck;have HAE:=aa ha;clear hck ha hc hcc hN;go_enter func195,ntmps195;go_wp2_with fail;refine HCK.out.mono ?_;rintro e w1 ⟨rfl,hb1⟩;go_wp2_with fail;go_ret;exact⟨by rw[HAE.out];rfl,bB B0.out hb1⟩
end Go.Proofs.YtkhemfnlflbniaaGreatDoor
namespace Go.Proofs.YtkhemfnlflbniaaGreatDoor
def FrBd (N:Nat) (B:Int) (d:List (List Fr)):Prop:=∀i j:Nat,i<N→j<N→-B≤(mget d i j).s∧(mget d i j).s≤B
theorem newM_bd {N:Nat} {B:Int} {d:List (List Fr)} (_hB:0≤B) (h:FrBd N B d) {c:Nat} (hc:c<N) {i j:Nat} (hi:i<N) (hj:j<N):-(2*B)≤(newM (mget d) c i j).s∧(newM (mget d) c i j).s≤2*B:=by
 have h1:=h i j hi hj;have h2:=h i c hi hc;have h3:=h c j hc hj;unfold newM
 split
 ·rcases lesser_cases (mget d i j) (y9 (mget d i c) (mget d c j).s) with e|e
  ·rw[e];omega
  ·rw[e];unfold y9;simp only;omega
 ·omega
theorem piv_state {N:Nat} {d:List (List Fr)} (hd:Dim N d) {c:Nat} (hc:c<N) (hcc:mget d c c=⟨0,true⟩) {a:Nat} (ha:a<N) {b:Nat} (hb:b≤N) :
 Dim N ((List.range b).foldl (cellM c a) ((List.range a).foldl (rowM N c) d)) ∧
 ∀i j,i<N→j<N→mget ((List.range b).foldl (cellM c a) ((List.range a).foldl (rowM N c) d)) i j=if i<a∨(i=a∧j<b) then newM (mget d) c i j else mget d i j:=by
 obtain⟨h1,h2⟩:=piv_fold hc hcc hd (fun _ _ _ _=>rfl) a (by omega);exact row_fold hc ha hcc h1 h2 b hb
theorem piv_bd {N:Nat} {B:Int} {d:List (List Fr)} (hB:0≤B) (h:FrBd N B d) (hd:Dim N d) {c:Nat} (hc:c<N) (hcc:mget d c c=⟨0,true⟩):FrBd N (2*B) (pivM N d c):=by
 intro i j hi hj;obtain⟨_,h2⟩:=piv_fold hc hcc hd (fun _ _ _ _=>rfl) N (Nat.le_refl _)
 have e:mget (pivM N d c) i j=newM (mget d) c i j:=by
  have:=h2 i j hi hj;rw[if_pos hi] at this;exact this
 rw[e];exact newM_bd hB h hc hi hj
def pow2:Nat→Int
 | 0=>1
 | k+1=>2*pow2 k
theorem pow2_pos:∀k,1≤pow2 k
 | 0=>by simp[pow2]
 | k+1=>by have:=pow2_pos k;simp only[pow2];omega
theorem pow2_le:∀k m,k≤m→pow2 k≤pow2 m
 | k, 0, h => by have : k = 0 := by omega
                 subst this;exact Int.le_refl _
 | k,m+1,h=>by
   by_cases e:k=m+1
   ·subst e;exact Int.le_refl _
   ·have:=pow2_le k m (by omega)
    have:=pow2_pos m
    simp only[pow2];omega
theorem pow2_40:pow2 40=1099511627776:=by decide +kernel
theorem mat0_bd (N:Nat):FrBd N 1000000 (mat0 N):=by
 intro i j hi hj;rw[mat0_get hi hj]
 split<;>simp[o6]
theorem mat1_bd {N:Nat} {d:List (List Fr)} (h:FrBd N 1000000 d) (hd:Dim N d) {x:Bd} (hx:x.valid N):FrBd N 1000000 (mat1 d x):=by
 obtain⟨v1,v2,v3,v4,v5,v6⟩:=hx;intro i j hi hj;unfold mat1;rw[mget_mset hd (by omega) (by omega)]
 split
 ·rcases lesser_cases (mget d x.src.toNat x.dst.toNat) ⟨x.most,true⟩ with e|e
  ·rw[e];exact h _ _ (by omega) (by omega)
  ·rw[e];exact⟨v5,v6⟩
 ·exact h i j hi hj
theorem mat1_dim {N:Nat} {d:List (List Fr)} (hd:Dim N d) (x:Bd):Dim N (mat1 d x):=mset_dim hd _ _ _
theorem mat1_fold_bd {N:Nat}:∀(bs:List Bd) (d:List (List Fr)),au N bs→Dim N d→FrBd N 1000000 d→Dim N (bs.foldl mat1 d)∧FrBd N 1000000 (bs.foldl mat1 d)
 | [],_d,_,h1,h2=>⟨h1,h2⟩
 | x::bs,d,hv,h1,h2=>mat1_fold_bd bs (mat1 d x) (fun y hy=>hv y (List.mem_cons_of_mem _ hy)) (mat1_dim h1 x) (mat1_bd h2 h1 (hv x (List.mem_cons_self ..)))
def pivS (N:Nat) (bs:List Bd) (c:Nat):List (List Fr):=(List.range c).foldl (pivM N) (bs.foldl mat1 (mat0 N))
theorem pivS_succ (N:Nat) (bs:List Bd) (c:Nat):pivS N bs (c+1)=pivM N (pivS N bs c) c:=by unfold pivS;rw[List.range_succ,List.foldl_append];rfl
theorem pivS_ok {N:Nat} {bs:List Bd} (hv:au N bs) (hn:i7 bs) {c:Nat} (hc:c≤N):Dim N (pivS N bs c)∧(∀a,a<N→mget (pivS N bs c) a a=⟨0,true⟩):=by
 have h:=mInv_all hv hn c hc;exact⟨h.dim,h.diag⟩
theorem pivS_bd {N:Nat} {bs:List Bd} (hv:au N bs) (hn:i7 bs):∀c,c≤N→FrBd N (pow2 c*1000000) (pivS N bs c)
 | 0,_=>by
   have:=(mat1_fold_bd bs (mat0 N) hv (mat0_dim N) (mat0_bd N)).2;simpa [pivS,pow2] using this
 | c+1,hc=>by
   rw[pivS_succ];obtain⟨h1,h2⟩:=pivS_ok hv hn (c:=c) (by omega);have:=piv_bd (B:=pow2 c*1000000) (by have:=pow2_pos c;omega) (pivS_bd hv hn c (by omega)) h1 (by omega) (h2 c (by omega))
   have e:pow2 (c+1)*1000000=2*(pow2 c*1000000):=by simp only[pow2];omega
   rw[e];exact this
theorem piv_read {N:Nat} {bs:List Bd} (hv:au N bs) (hn:i7 bs) (hN:N≤40) {c a b:Nat} (hc:c<N) (ha:a<N) (hb:b<N) {d:List (List Fr)} (e:(List.range b).foldl (cellM c a) ((List.range a).foldl (rowM N c) (pivS N bs c))=d) :
 Dim N d∧∀i j,i<N→j<N→-3000000000000000000≤(mget d i j).s∧(mget d i j).s≤3000000000000000000:=by
 obtain⟨h1,h2⟩:=pivS_ok hv hn (c:=c) (by omega);obtain⟨g1,g2⟩:=piv_state h1 hc (h2 c hc) ha (b:=b) (by omega);have hbd:=pivS_bd hv hn c (by omega);have hp:=pow2_le c 40 (by omega);rw[pow2_40] at hp;have hp0:=pow2_pos c;rw[e] at g1 g2;refine⟨g1,fun i j hi hj=>?_⟩;rw[g2 i j hi hj]
 split
 ·have:=newM_bd (B:=pow2 c*1000000) (by omega) hbd hc hi hj
  omega
 ·have:=hbd i j hi hj
  omega
theorem mset_row {N:Nat} {d:List (List Fr)} (hd:Dim N d) {i j:Nat} (hi:i<N) (x:Fr) (k:Nat):(mset d i j x).getD k []=if k=i then(d.getD i []).set j x else d.getD k []:=by
 unfold mset;simp only[List.getD_eq_getElem?_getD,List.getElem?_set]
 have hl:i<d.length:=by rw[hd.1];exact hi
 by_cases e:i=k
 ·subst e;simp[hl]
 ·simp[e,Ne.symm e]
end Go.Proofs.YtkhemfnlflbniaaGreatDoor
namespace Go.Proofs.YtkhemfnlflbniaaGreatDoor
open Go Go.RowKit Go.Shelf Go.Proofs.Tryz
theorem info148:(Tryz.prog.info? 148).map (fun i=>(i.zero,i.size,i.bytes))=some (some (.slice none 0 0),1,24):=by kernel_rfl
theorem info147:(Tryz.prog.info? 147).map (fun i=>(i.zero,i.size,i.bytes))=some (some (.agg #[.int .i64 0,.bool false]),2,16):=by kernel_rfl
theorem below_of_drew {W W':World} (h:Below W.drew.heap.size W.drew W'):Below W.heap.size W W':=((Below.refl _ W).drew).trans h
def frCells (r:List Fr):List Value:=r.flatMap fun x=>[.int .i64 x.s,.bool x.ok]
theorem frCells_cons (x:Fr) (r:List Fr):frCells (x::r)=.int .i64 x.s::.bool x.ok::frCells r:=rfl
theorem frCells_get0:∀(r:List Fr) (j:Nat),j<r.length→(frCells r)[j*2]?=some (.int .i64 (r.getD j o6).s)
 | [],j,h=>by simp at h
 | x::r,0,_=>rfl
 | x::r,j+1,h=>by
   rw[frCells_cons,show(j+1)*2=j*2+1+1 by omega,List.getElem?_cons_succ,List.getElem?_cons_succ,frCells_get0 r j (by simpa using h)]
   rfl
theorem frCells_get1:∀(r:List Fr) (j:Nat),j<r.length→(frCells r)[j*2+1]?=some (.bool (r.getD j o6).ok)
 | [],j,h=>by simp at h
 | x::r,0,_=>rfl
 | x::r,j+1,h=>by
   rw[frCells_cons,show(j+1)*2+1=j*2+1+1+1 by omega,List.getElem?_cons_succ,List.getElem?_cons_succ,frCells_get1 r j (by simpa using h)]
   rfl
theorem frCells_set:∀(r:List Fr) (j:Nat) (x:Fr),j<r.length→((frCells r).set (j*2) (.int .i64 x.s)).set (j*2+1) (.bool x.ok)=frCells (r.set j x)
 | [],j,_,h=>by simp at h
 | y::r,0,x,_=>rfl
 | y::r,j+1,x,h=>by
   rw[frCells_cons,show(j+1)*2+1=j*2+1+1+1 by omega,show(j+1)*2=j*2+1+1 by omega,List.set_cons_succ,List.set_cons_succ,List.set_cons_succ,List.set_cons_succ,frCells_set r j x (by simpa using h)]
   rfl
theorem frReplicate:∀R:Nat,(List.range (R*2)).map (fun i=>(#[Value.int .i64 0,.bool false]:Array Value)[i%2]!)=frCells (List.replicate R o6)
 | 0=>rfl
 | R+1=>by
   rw[show(R+1)*2=R*2+1+1 by omega,List.range_succ,List.range_succ,List.map_append,List.map_append,frReplicate R]
   have e1:R*2%2=0:=by omega
   have e2:(R*2+1)%2=1:=by omega
   simp only[List.map_cons,List.map_nil,e1,e2];rw[List.replicate_succ',frCells,frCells,List.flatMap_append];simp[o6]
theorem madeFr (R:Nat):madeCells #[Value.int .i64 0,.bool false] (R*2)=(frCells (List.replicate R o6)).toArray:=by
 apply Array.ext'
 rw[←frReplicate];simp[madeCells,Array.toList_map,Array.toList_range]
theorem run_make_fr (R:Nat) (hR:R≤1000) (W:World) :
 (Instr.makeSlice 148 (.int .i64 (R:Int)) (.int .i64 (R:Int))).run prog W=.ok (.slice (some ⟨W.heap.size,0,none⟩) R R) (W.alloc (.cells (frCells (List.replicate R o6)).toArray 147)):=by
 obtain⟨i,hi,hz,hs,hb⟩:=info_parts info147;have h:=run_make (P:=prog) W 148 147 i _ underlying148 hi hz .i64 .i64 R R (by omega) (Int.le_refl _) (by rw[hb];omega) (by omega);rw[hs,Int.toNat_natCast] at h;rw[h]
 congr 2
 rw[←madeFr]
 rfl
def slV (B R i:Nat):Value:=.slice (some ⟨B+1+i,0,none⟩) R R
structure MatAt (W:World) (B R:Nat) (d:List (List Fr)):Prop where
 out:W.heap[B]?=some (.cells ((List.range R).map (slV B R)).toArray 148 (0,0))
 row:∀i,i<R→W.heap[B+1+i]?=some (.cells (frCells (d.getD i [])).toArray 147 (0,0))
theorem MatAt.below {W W':World} {B R:Nat} {d:List (List Fr)} (h:MatAt W B R d) (hb:Below W.heap.size W W'):MatAt W' B R d :=
 ⟨ac hb (lt_of_block h.out) h.out,fun i hi=>ac hb (lt_of_block (h.row i hi)) (h.row i hi)⟩
theorem MatAt.slot {W:World} {B R:Nat} {d:List (List Fr)} (h:MatAt W B R d) {i:Nat} (hi:i<R):W.cell? ⟨B,i,none⟩=some (.slice (some ⟨B+1+i,0,none⟩) R R):=by
 rw[cell_of_row _ _ _ _ _ _ h.out];simp[hi,slV]
theorem MatAt.cells {W:World} {B R:Nat} {d:List (List Fr)} (h:MatAt W B R d) (hd:Dim R d) {i j:Nat} (hi:i<R) (hj:j<R) :
 W.cell? ⟨B+1+i,j*2,none⟩=some (.int .i64 (mget d i j).s)∧W.cell? ⟨B+1+i,j*2+1,none⟩=some (.bool (mget d i j).ok)∧∀k,W.frozen? ⟨B+1+i,k,none⟩=false:=by
 have hl:j<(d.getD i []).length:=by rw[hd.2 i hi];exact hj
 refine⟨?_,?_,fun k=>frozen_of_row _ _ _ _ _ (h.row i hi)⟩
 ·rw[cell_of_row _ _ _ _ _ _ (h.row i hi),List.getElem?_toArray,frCells_get0 _ _ hl];rfl
 ·rw[cell_of_row _ _ _ _ _ _ (h.row i hi),List.getElem?_toArray,frCells_get1 _ _ hl];rfl
theorem MatAt.set {W:World} {B R:Nat} {d:List (List Fr)} (h:MatAt W B R d) (hd:Dim R d) {i j:Nat} (hi:i<R) (hj:j<R) (x:Fr) :
 MatAt ((W.setCell ⟨B+1+i,j*2,none⟩ (.int .i64 x.s)).setCell ⟨B+1+i,j*2+1,none⟩ (.bool x.ok)) B R (mset d i j x):=by
 have hl:j<(d.getD i []).length:=by rw[hd.2 i hi];exact hj
 refine⟨?_,fun k hk=>?_⟩
 ·rw[heap_setCell_other _ _ _ _ (by simp;omega),heap_setCell_other _ _ _ _ (by simp;omega)];exact h.out
 ·rw[mset_row hd hi]
  by_cases e:k=i
  ·subst e
   rw[if_pos rfl];have h1:=heap_setCell_same _ _ (j*2+1) _ _ (Value.bool x.ok) (heap_setCell_same _ _ (j*2) _ _ (Value.int .i64 x.s) (h.row k hk));rw[h1]
   congr 2
   rw[←frCells_set _ _ _ hl];simp
  ·rw[if_neg e,heap_setCell_other _ _ _ _ (by simp;omega),heap_setCell_other _ _ _ _ (by simp;omega)];exact h.row k hk
structure MSt (w W:World) (R:Nat) (a:Option Addr) (len cap:Nat) (d:List (List Fr)):Prop where
 box:W.heap[w.heap.size]?=some (.cells #[.int .i64 (R:Int),.slice a len cap] 61 (0,0))
 mat:MatAt W (w.heap.size+1) R d
 dim:Dim R d
 bl:Below w.heap.size w W
theorem MSt.grow {w W W':World} {R:Nat} {a:Option Addr} {len cap:Nat} {d:List (List Fr)} (h:MSt w W R a len cap d) (hb:Below W.heap.size W W'):MSt w W' R a len cap d :=
 ⟨ac hb (lt_of_block h.box) h.box,h.mat.below hb,h.dim,bB h.bl hb⟩
theorem MSt.set {w W:World} {R:Nat} {a:Option Addr} {len cap:Nat} {d:List (List Fr)} (h:MSt w W R a len cap d) {i j:Nat} (hi:i<R) (hj:j<R) (x:Fr) :
 MSt w ((W.setCell ⟨w.heap.size+1+1+i,j*2,none⟩ (.int .i64 x.s)).setCell ⟨w.heap.size+1+1+i,j*2+1,none⟩ (.bool x.ok)) R a len cap (mset d i j x) :=
 ⟨by rw[heap_setCell_other _ _ _ _ (by simp;omega),heap_setCell_other _ _ _ _ (by simp;omega)];exact h.box,h.mat.set h.dim hi hj x,mset_dim h.dim _ _ _,(h.bl.setCell (by simp;omega) _).setCell (by simp;omega) _⟩
theorem half_get (f:Nat→Value) (z:Value) {R k:Nat} (hk:k<R):((List.range k).map f++List.replicate (R-k) z)[k]?=some z:=by
 rw[List.getElem?_append_right (by simp),List.length_map,List.length_range,Nat.sub_self,List.getElem?_replicate,if_pos (by omega)]
theorem half_set (f:Nat→Value) (z v:Value) {R k:Nat} (hk:k<R):(((List.range k).map f++List.replicate (R-k) z).toArray.setIfInBounds k v)[k]?=some v:=by
 rw[Array.getElem?_setIfInBounds,if_pos rfl,if_pos (by simp;omega)]
structure MSt0 (w W:World) (R:Nat) (a:Option Addr) (len cap k:Nat):Prop where
 box:W.heap[w.heap.size]?=some (.cells #[.int .i64 (R:Int),.slice a len cap] 61 (0,0))
 out:W.heap[w.heap.size+1]?=some (.cells ((List.range k).map (slV (w.heap.size+1) R)++List.replicate (R-k) (Value.slice none 0 0)).toArray 148 (0,0))
 row:∀i,i<k→W.heap[w.heap.size+1+1+i]?=some (.cells (frCells ((List.replicate R o6).set i ⟨0,true⟩)).toArray 147 (0,0))
 size:W.heap.size=w.heap.size+1+1+k
 bl:Below w.heap.size w W
theorem MSt0.done {w W:World} {R:Nat} {a:Option Addr} {len cap:Nat} (h:MSt0 w W R a len cap R):MSt w W R a len cap (mat0 R):=by
 refine⟨h.box,⟨?_,fun i hi=>?_⟩,mat0_dim R,h.bl⟩
 ·have:=h.out
  rw[Nat.sub_self,List.replicate_zero,List.append_nil] at this;exact this
 ·rw[h.row i hi]
  simp[mat0,hi]
theorem MSt0.next {w W:World} {R:Nat} {a:Option Addr} {len cap k:Nat} (h:MSt0 w W R a len cap k) (hk:k<R) {W':World}
 (hb:Below (w.heap.size+1) W W') (ho:W'.heap[w.heap.size+1]?=some (.cells (((List.range k).map (slV (w.heap.size+1) R)++List.replicate (R-k) (Value.slice none 0 0)).toArray.setIfInBounds k (slV (w.heap.size+1) R k)) 148 (0,0)))
 (hr:∀i,i<k→W'.heap[w.heap.size+1+1+i]?=W.heap[w.heap.size+1+1+i]?) (hn:W'.heap[w.heap.size+1+1+k]?=some (.cells (frCells ((List.replicate R o6).set k ⟨0,true⟩)).toArray 147 (0,0)))
 (hs:W'.heap.size=W.heap.size+1):MSt0 w W' R a len cap (k+1):=by
 refine⟨ac hb (by omega) h.box,?_,fun i hi=>?_,by rw[hs,h.size];omega,h.bl.trans (hb.mono (by omega))⟩
 ·rw[ho]
  congr 2
  rw[List.setIfInBounds_toArray,sq _ _ hk]
 ·by_cases e:i=k
  ·subst e;exact hn
  ·rw[hr i (by omega)];exact h.row i (by omega)
end Go.Proofs.YtkhemfnlflbniaaGreatDoor
namespace Go.Proofs.YtkhemfnlflbniaaGreatDoor
def fitBothR (c:Crs) (east dx:Int):Option (Int×Int):=if dx<0 then(fitR { c with bearing:=normR (c.bearing+180) } east (-dx)).map (fun p=>(-p.2,-p.1)) else fitR c east dx
theorem both_ref {c:Crs} (hc:c.ok=true) (east:Int) {dx:Int} (h0:dx≠0) (h1:-100000≤dx) (h2:dx≤100000):fitBothR c east dx=gD c east dx:=by
 unfold fitBothR gD
 split
 ·have e:({ c with bearing:=normR (c.bearing+180) }:Crs)=c.back:=by unfold Crs.back;rw[normR_eq]
  rw[e,fit_ref (Crs.back_ok hc) east (-dx) (by omega) (by omega)]
 ·exact fit_ref hc east dx (by omega) h2
def tableR (F:Fld) (c:Cll):Bool :=
 if(bZ F c.limit&&aY F c.fr)=false∨bm c.er 0 100000=false then false
 else if c.kind=1 then decide (c.crs=crs0)&&decide (c.other=0)&&decide (c.tt=0)&&bm c.sz 0 100000
 else if c.kind=2 then decide (c.crs=crs0)&&(decide (c.limit<c.other)&&decide (c.other<F.lms.length))&&decide (c.tt=0)&&bm c.sz 0 100000
 else if c.kind=3 then decide (c.other=0)&&decide (c.sz=0)&&decide (c.er=0)&&bm c.tt 0 ((F.sts.length:Int)-1)&&decide (c.tt≠c.fr)
 else if c.kind=4 then decide (c.crs=crs0)&&(decide (c.limit<c.other)&&decide (c.other<F.lms.length))&&decide (c.sz=0)&&decide (c.er=0)&&decide (c.fr<c.tt)&&decide (c.tt<F.sts.length)
 else if c.kind=5 then decide (c.crs=crs0)&&decide (c.other=0)&&bm c.tt 0 ((F.sts.length:Int)-1)&&decide (c.tt≠c.fr)&&bm c.sz (-100000) 100000
 else false
theorem cll_eq {a b:Cll}:a=b↔a.kind=b.kind∧a.limit=b.limit∧a.other=b.other∧a.fr=b.fr∧a.tt=b.tt∧a.sz=b.sz∧a.er=b.er∧a.crs=b.crs:=by
 cases a;cases b;simp
theorem right_ref (F:Fld) (c:Cll):cA F c=(tableR F c&&(if c.kind=3 then c.crs.ok else true)):=by
 unfold cA tableR;rw[Bool.eq_iff_iff];have hcr:c.crs=c.crs:=rfl
 by_cases k1:c.kind=1
 ·simp only[k1,if_true,jQ,bZ,aY,dQ,bm,cll_eq,Bool.and_eq_true,decide_eq_true_eq]
  by_cases q:c.crs=crs0
  ·simp[q];omega
  ·simp[q]
 by_cases k2:c.kind=2
 ·simp only[k2,if_true,jN,bZ,aY,dQ,bm,cll_eq,Bool.and_eq_true]
  by_cases q:c.crs=crs0
  ·simp[q];omega
  ·simp[q]
 by_cases k3:c.kind=3
 ·simp only[k3,if_true,gB,bZ,aY,bm,cll_eq,Bool.and_eq_true]
  cases c.crs.ok
  ·simp
  ·simp;omega
 by_cases k4:c.kind=4
 ·simp only[k4,if_true,jJ,bZ,aY,bm,cll_eq,Bool.and_eq_true]
  by_cases q:c.crs=crs0
  ·simp[q];omega
  ·simp[q]
 by_cases k5:c.kind=5
 ·simp only[k5,if_true,kd,bZ,aY,dQ,bm,cll_eq,Bool.and_eq_true]
  by_cases q:c.crs=crs0
  ·simp[q];omega
  ·simp[q]
 simp[k1,k2,k3,k4,k5]
def declBack (year:Int) (l:List Vrn):Nat→Option Int
 | 0=>none
 | n+1=>if(l.getD n ⟨0,0⟩).year≤year then some (l.getD n ⟨0,0⟩).east else declBack year l n
theorem declBack_eq (year:Int) (l:List Vrn):∀n,n≤l.length→declBack year l n=jL year (l.take n) none
 | 0,_=>by simp[declBack,jL]
 | n+1,h=>by
   have hn:n<l.length:=h
   have e:l.take (n+1)=l.take n++[l.getD n ⟨0,0⟩]:=by
    rw[List.take_add_one,List.getD_eq_getElem?_getD,List.getElem?_eq_getElem hn]
    rfl
   rw[e,declGo_app];unfold declBack;rw[declBack_eq year l n (by omega)]
theorem decl_ref (l:List Vrn) (year:Int):(if bz l≠0 then none else declBack year l l.length)=eN l year:=by
 unfold eN
 split
 ·rfl
 ·rw[declBack_eq year l _ (Nat.le_refl _),List.take_length]
def itvR (l:List Vrn) (c:Crs) (dx:Int):Option (Int×Int)×Int :=
 if bz l≠0 then(none,bz l) else if c.ok=false then(none,1) else match eN l c.year with
  | none=>(none,20)
  | some e=>if dx=0∨bm dx (-100000) 100000=false then(none,1) else(fitBothR c e dx,0)
theorem itv_ref (l:List Vrn) (c:Crs) (dx:Int):itvR l c dx=lD l c dx:=by
 unfold itvR lD
 by_cases h1:bz l≠0
 ·rw[if_pos h1,if_pos h1]
 ·rw[if_neg h1,if_neg h1]
  by_cases h2:c.ok=false
  ·rw[if_pos h2,if_pos h2]
  ·rw[if_neg h2,if_neg h2]
   cases eN l c.year with
   | none=>rfl
   | some e =>
     simp only
     by_cases h3:dx=0∨bm dx (-100000) 100000=false
     ·rw[if_pos h3,if_pos h3]
     ·rw[if_neg h3,if_neg h3]
      have h4:c.ok=true:=by simpa using h2
      have h5:dx≠0∧-100000≤dx∧dx≤100000:=by
       refine⟨fun q=>h3 (.inl q),?_⟩
       have:bm dx (-100000) 100000=true:=by
        cases q:bm dx (-100000) 100000 with
        | true=>rfl
        | false=>exact absurd (.inr q) h3
       unfold bm at this;simpa using this
      rw[both_ref h4 e h5.1 h5.2.1 h5.2.2]
def callR (F:Fld) (c:Cll):Int :=
 if tableR F c=false then 1 else if c.kind≠3 then 0 else if c.crs.ok=false then 1 else
 if(itvR F.vrs c.crs (oX F c)).2≠0 then(itvR F.vrs c.crs (oX F c)).2 else if(itvR F.vrs c.crs (oX F c)).1=none then 5 else 0
theorem call_ref {F:Fld} (hv:bz F.vrs=0) (c:Cll):callR F c=dP F c:=by
 unfold callR dP;rw[right_ref,itv_ref]
 by_cases h1:tableR F c=false
 ·simp[h1]
 ·have h1':tableR F c=true:=by simpa using h1
  by_cases h2:c.kind=3
  ·cases h3:c.crs.ok
   ·simp[h1',h2]
   ·simp only[h1',h2,Bool.and_self,if_true]
    by_cases h4:eN F.vrs c.crs.year=none
    ·have:lD F.vrs c.crs (oX F c)=(none,20):=by
      unfold lD;rw[if_neg (by rw[hv];simp),if_neg (by rw[h3];simp),h4]
     simp[h4,this]
    ·unfold gV
     generalize lD F.vrs c.crs (oX F c)=z
     simp[h4]
  ·simp[h1',h2]
theorem flag_zero {b:Bool}:bq b=0↔b=true:=by cases b<;>simp[bq]
end Go.Proofs.YtkhemfnlflbniaaGreatDoor
namespace Go.Proofs.YtkhemfnlflbniaaGreatDoor
open Go Go.RowKit Go.Shelf Go.Proofs.Tryz
attribute [local go_sem] Oper.semAt_some
theorem matrix_any (w:World) (R:Nat) (a:Option Addr) (cap:Nat) (bs:List Bd) (hR0:1≤R) (hR1:R≤40) (hl:bs.length≤4000) (h:BoundsAt w a bs) (hv:au R bs) (hn:i7 bs) :
 Calls prog 98 #[.agg #[.int .i64 (R:Int),.slice a bs.length cap]] w fun e w'=>e=.returned (.slice (some ⟨w.heap.size+1,0,none⟩) R R)∧MatAt w' (w.heap.size+1) R (matrixP R bs)∧Below w.heap.size w w':=by
 have hmk:=fun W=>run_make_row' (P:=prog) 143 148 (.slice none 0 0) 24 underlying143 info148 rfl .i64 .i64 R (by omega) (by omega) W
 have hmf:=fun W=>run_make_fr R (by omega) W
 obtain⟨W0,hW0⟩:∃W0,W0=(w.alloc (.cells #[.int .i64 (R:Int),.slice a bs.length cap] 61)).alloc (.cells (madeCells #[.slice none 0 0] R) 148):=⟨_,rfl⟩
 have st0:MSt0 w W0 R a bs.length cap 0:=by
  rw[hW0];refine⟨?_,?_,fun i hi=>by omega,by simp,(aD).alloc (by simp) _⟩
  ·rw[Below.heap_alloc _ _ _ (by simp),heap_alloc_new]
  ·rw[af _ _ _ (by simp)]
   congr 2
   rw[←toList_madeCells_one];simp
 have ST0:=aa st0;have HW0:=aa hW0;have H:=aa h;have HV:=aa hv;have HN:=aa hn;clear st0 hW0 h hv hn
 have iR0:∀x:Nat,x<R→(x:Int)<(R:Int):=fun x hx=>by omega
 go_enter func98,ntmps98;go_upto_region 2 with fail;rw[←HW0.out];go_wp2_with fail
 go_loopw [4] (fun i wr=>∃k:Nat,k≤R∧i=.int .i64 k∧Hid (MSt0 w wr R a bs.length cap k)) (fun i _=>R-(intOf i).toNat)
 case atStart=>exact⟨0,by omega,rfl,ST0⟩
 case round =>
  obtain⟨k,hk,rfl,hst⟩:=hrel;have e0:wr.cell? ⟨w.heap.size,0,none⟩=some (.int .i64 (R:Int)):=bu hst.out.box rfl
  by_cases hlt:k<R
  ·have s0:wr.cell? ⟨w.heap.size+1,k,none⟩=some (.slice none 0 0):=by
    rw[cell_of_row _ _ _ _ _ _ hst.out.out,List.getElem?_toArray,half_get _ _ hlt]
   have s1:wr.frozen? ⟨w.heap.size+1,k,none⟩=false:=frozen_of_row _ _ _ _ _ hst.out.out;have l0:w.heap.size<wr.heap.size:=lt_of_block hst.out.box;have l1:w.heap.size+1<wr.heap.size:=lt_of_block hst.out.out;have hI:=iR0 k hlt;go_upto_region 6 with fail;obtain⟨W1,hW1⟩:∃W1,W1=(wr.setCell ⟨w.heap.size+1,k,none⟩ (.slice (some ⟨wr.heap.size,0,none⟩) R R)).alloc (.cells (frCells (List.replicate R o6)).toArray 147):=⟨_,rfl⟩
   first
    | rw[←hW1]
    | (rw[World.setCell_alloc_past _ _ _ _ l1];rw[←hW1])
   have b1:W1.heap[wr.heap.size]?=some (.cells (frCells (List.replicate R o6)).toArray 147 (0,0)):=by rw[hW1,af _ _ _ (by simp)]
   have b0:W1.heap[w.heap.size+1]?=some (.cells (((List.range k).map (slV (w.heap.size+1) R)++List.replicate (R-k) (Value.slice none 0 0)).toArray.setIfInBounds k (.slice (some ⟨wr.heap.size,0,none⟩) R R)) 148 (0,0)):=by
    rw[hW1,Below.heap_alloc _ _ _ (by simpa using l1)];exact heap_setCell_same _ _ _ _ _ _ hst.out.out
   have hfl:k<(List.replicate R o6).length:=by simpa using hlt
   have q0:W1.cell? ⟨w.heap.size+1,k,none⟩=some (.slice (some ⟨wr.heap.size,0,none⟩) R R):=by
    rw[cell_of_row _ _ _ _ _ _ b0,half_set _ _ _ hlt]
   have q1:W1.cell? ⟨wr.heap.size,k*2,none⟩=some (.int .i64 ((List.replicate R o6).getD k o6).s):=by rw[cell_of_row _ _ _ _ _ _ b1,List.getElem?_toArray,frCells_get0 _ _ hfl]
   have q2:W1.cell? ⟨wr.heap.size,k*2+1,none⟩=some (.bool ((List.replicate R o6).getD k o6).ok):=by rw[cell_of_row _ _ _ _ _ _ b1,List.getElem?_toArray,frCells_get1 _ _ hfl]
   have q3:∀i,W1.frozen? ⟨wr.heap.size,i,none⟩=false:=fun i=>frozen_of_row _ _ _ _ _ b1
   have hb:Below (w.heap.size+1) wr W1:=by rw[hW1];exact((Below.refl (w.heap.size+1) wr).setCell (Nat.le_refl _) _).alloc (by simp;omega) _
   have hoth:∀j,j<wr.heap.size→j≠w.heap.size+1→W1.heap[j]?=wr.heap[j]?:=fun j hj hne=>by
    rw[hW1,Below.heap_alloc _ _ _ (by simpa using hj),heap_setCell_other _ _ _ _ hne]
   have hsz1:W1.heap.size=wr.heap.size+1:=by rw[hW1];simp
   have hszr:=hst.out.size;have HB:=aa hb;have HO:=aa hoth;have B0:=aa b0;have B1:=aa b1;have HS1:=aa hsz1;have HSR:=aa hszr;clear hW1 b0 b1 hb hoth s0 s1 e0 hsz1 hszr;go_wp2_with fail;go_roundw
   case rel =>
    have hsz1:=HS1.out;have hszr:=HSR.out;refine⟨k+1,by omega,by go_num,aa ?_⟩
    have hne1:w.heap.size+1≠wr.heap.size:=by omega
    refine hst.out.next hlt ((HB.out.setCell (by simp;omega) _).setCell (by simp;omega) _) ?_ ?_ ?_ ?_
    ·rw[heap_setCell_other _ _ _ _ (by simpa using hne1),heap_setCell_other _ _ _ _ (by simpa using hne1),B0.out,hszr];rfl
    ·intro i hi
     rw[heap_setCell_other _ _ _ _ (by simp;omega),heap_setCell_other _ _ _ _ (by simp;omega)];exact HO.out _ (by omega) (by omega)
    ·have hh:=heap_setCell_same _ _ (k*2+1) _ _ (Value.bool true) (heap_setCell_same _ _ (k*2) _ _ (Value.int .i64 0) B1.out)
     rw[←hszr];refine hh.trans ?_
     congr 2
     rw[←frCells_set _ _ _ hfl];simp
    ·simp[hsz1]
   case measure=>simp[intOf];omega
  ·obtain rfl : k = R := by omega
   have hm:=aa hst.out.done;clear e0 hst;have e0:wr.cell? ⟨w.heap.size,0,none⟩=some (.int .i64 (k:Int)):=bu hm.out.box rfl;obtain⟨wA,rfl⟩:∃x:World,x=wr:=⟨wr,rfl⟩;go_wp2_with fail
   go_loopw [5] (fun i wr=>∃q:Nat,q≤bs.length∧i=.int .i64 q∧Hid (MSt w wr k a bs.length cap ((bs.take q).foldl mat1 (mat0 k)))) (fun i _=>bs.length-(intOf i).toNat)
   case atStart=>exact⟨0,by omega,rfl,hm⟩
   case round =>
    obtain⟨q,hq,rfl,hst⟩:=hrel;clear e0;have e0:wr.cell? ⟨w.heap.size,0,none⟩=some (.int .i64 (k:Int)):=bu hst.out.box rfl;have e1:wr.cell? ⟨w.heap.size,1,none⟩=some (.slice a bs.length cap):=bu hst.out.box rfl;have l0:w.heap.size<wr.heap.size:=lt_of_block hst.out.box
    by_cases hlt:q<bs.length
    ·obtain⟨bb9Q,off,rfl,hbl,hcs⟩:=H.out.at hlt
     obtain⟨c0,c1,c2,c3⟩:=hcs.below hst.out.bl hbl;have hval:=HV.out bs[q] (List.getElem_mem _);obtain⟨x,hx⟩:=ag (bs[q]);rw[hx] at c0 c1 c2 c3 hval;have HX:=aa hx;clear hx;obtain⟨ys,yd,ym,yr⟩:=x;obtain⟨v1,v2,v3,v4,v5,v6⟩:=hval;simp only at c0 c1 c2 c3 v1 v2 v3 v4 v5 v6;obtain⟨si,rfl⟩:=Int.eq_ofNat_of_zero_le v1;obtain⟨di,rfl⟩:=Int.eq_ofNat_of_zero_le v3;obtain⟨d,hdd⟩:=ag ((bs.take q).foldl mat1 (mat0 k));rw[hdd] at hst;have HD:=aa hdd;clear hdd
     have iR9Q:si<k:=by omega
     have jR9Q:di<k:=by omega
     have iI9Q:(si:Int)<(k:Int):=v2;have jI9Q:(di:Int)<(k:Int):=v4;have cR9Q:di<k:=jR9Q;have cI9Q:(di:Int)<(k:Int):=v4;go_upto_region 11 with fail;obtain⟨W2,hW2⟩:∃W2,W2=wr.alloc (Obj.cells #[.int .i64 (si:Int),.int .i64 (di:Int),.int .i64 ym,.int .i64 yr] 65):=⟨_,rfl⟩;rw[←hW2]
     have hbx:W2.heap[wr.heap.size]?=some (.cells #[.int .i64 (si:Int),.int .i64 (di:Int),.int .i64 ym,.int .i64 yr] 65 (0,0)):=by rw[hW2];exact heap_alloc_new _ _
     have hst2:=hst.out.grow (W':=W2) (by rw[hW2];exact aD);clear hW2 c0 c1 c2 c3 e0 e1;obtain⟨ms,hms⟩:=ag ((mget d si di).s);obtain⟨mo9Q,hmo⟩:=ag ((mget d si di).ok)
     have hmd:mget d si di=⟨ms,mo9Q⟩:=by rw[←hms,←hmo]
     have q3:=hst2.mat.slot iR9Q;obtain⟨q4,q5,q6⟩:=hst2.mat.cells hst2.dim iR9Q jR9Q;rw[hms] at q4;rw[hmo] at q5;have q0:W2.cell? ⟨wr.heap.size,0,none⟩=some (.int .i64 (si:Int)):=bu hbx rfl;have q1:W2.cell? ⟨wr.heap.size,1,none⟩=some (.int .i64 (di:Int)):=bu hbx rfl;have q2:W2.cell? ⟨wr.heap.size,2,none⟩=some (.int .i64 ym):=bu hbx rfl;have l2:wr.heap.size<W2.heap.size:=lt_of_block hbx;have l3:w.heap.size+1<W2.heap.size:=lt_of_block hst2.mat.out;have l4:w.heap.size+1+1+si<W2.heap.size:=lt_of_block (hst2.mat.row si iR9Q);have HMD:=aa hmd;have HST2:=aa hst2;clear hms hmo hmd hst2 hst hbx q6;refine aJ (S:=fun V=>V.cell? ⟨wr.heap.size,0,none⟩=some (.int .i64 (si:Int))∧V.cell? ⟨wr.heap.size,1,none⟩=some (.int .i64 (di:Int))∧V.cell? ⟨wr.heap.size,2,none⟩=some (.int .i64 ym)∧V.cell? ⟨w.heap.size+1,si,none⟩=some (.slice (some ⟨w.heap.size+1+1+si,0,none⟩) k k)∧V.cell? ⟨w.heap.size+1+1+si,di*2,none⟩=some (.int .i64 ms)∧V.cell? ⟨w.heap.size+1+1+si,di*2+1,none⟩=some (.bool mo9Q)) (last:=21) (by kernel_rfl) ?_;have hS0:W2.drew.cell? ⟨wr.heap.size,0,none⟩=some (.int .i64 (si:Int))∧W2.drew.cell? ⟨wr.heap.size,1,none⟩=some (.int .i64 (di:Int))∧W2.drew.cell? ⟨wr.heap.size,2,none⟩=some (.int .i64 ym)∧W2.drew.cell? ⟨w.heap.size+1,si,none⟩=some (.slice (some ⟨w.heap.size+1+1+si,0,none⟩) k k)∧W2.drew.cell? ⟨w.heap.size+1+1+si,di*2,none⟩=some (.int .i64 ms)∧W2.drew.cell? ⟨w.heap.size+1+1+si,di*2+1,none⟩=some (.bool mo9Q):=⟨q0,q1,q2,q3,q4,q5⟩;refine bC (i:=0) (v:=(.slice (some ⟨w.heap.size+1,0,none⟩) k k)) (by kernel_rfl) (by decide) rfl (by kernel_rfl) (by kernel_rfl) (by kernel_rfl) (fun _ _ _ h=>h) (.inl ⟨rfl,fun V hV=>?_⟩) hS0 ?_
     ·obtain⟨z0,z1,z2,z3,z4,z5⟩:=hV
      simp[go_sem,execOp]
     simp only[Act.put,List.setIfInBounds_toArray];refine bC (i:=1) (v:=(.pointer (some ⟨wr.heap.size,0,none⟩))) (by kernel_rfl) (by decide) rfl (by kernel_rfl) (by kernel_rfl) (by kernel_rfl) (fun _ _ _ h=>h) (.inl ⟨rfl,fun V hV=>?_⟩) hS0 ?_
     ·obtain⟨z0,z1,z2,z3,z4,z5⟩:=hV
      simp[go_sem,execOp]
     simp only[Act.put];refine bC (i:=2) (v:=(.int .i64 (si:Int))) (by kernel_rfl) (by decide) rfl (by kernel_rfl) (by kernel_rfl) (by kernel_rfl) (fun _ _ _ h=>h) (.inl ⟨rfl,fun V hV=>?_⟩) hS0 ?_
     ·obtain⟨z0,z1,z2,z3,z4,z5⟩:=hV
      simp[go_sem,execOp,z0]
     simp only[Act.put];refine bC (i:=3) (v:=(.pointer (some ⟨w.heap.size+1,si,none⟩))) (by kernel_rfl) (by decide) rfl (by kernel_rfl) (by kernel_rfl) (by kernel_rfl) (fun _ _ _ h=>h) (.inl ⟨rfl,fun V hV=>?_⟩) hS0 ?_
     ·obtain⟨z0,z1,z2,z3,z4,z5⟩:=hV
      simp[go_sem,execOp,iI9Q]
     simp only[Act.put];refine bC (i:=4) (v:=(.slice (some ⟨w.heap.size+1+1+si,0,none⟩) k k)) (by kernel_rfl) (by decide) rfl (by kernel_rfl) (by kernel_rfl) (by kernel_rfl) (fun _ _ _ h=>h) (.inl ⟨rfl,fun V hV=>?_⟩) hS0 ?_
     ·obtain⟨z0,z1,z2,z3,z4,z5⟩:=hV
      simp[go_sem,execOp,z3]
     simp only[Act.put];refine bC (i:=5) (v:=(.pointer (some ⟨wr.heap.size,1,none⟩))) (by kernel_rfl) (by decide) rfl (by kernel_rfl) (by kernel_rfl) (by kernel_rfl) (fun _ _ _ h=>h) (.inl ⟨rfl,fun V hV=>?_⟩) hS0 ?_
     ·obtain⟨z0,z1,z2,z3,z4,z5⟩:=hV
      simp[go_sem,execOp]
     simp only[Act.put];refine bC (i:=6) (v:=(.int .i64 (di:Int))) (by kernel_rfl) (by decide) rfl (by kernel_rfl) (by kernel_rfl) (by kernel_rfl) (fun _ _ _ h=>h) (.inl ⟨rfl,fun V hV=>?_⟩) hS0 ?_
     ·obtain⟨z0,z1,z2,z3,z4,z5⟩:=hV
      simp[go_sem,execOp,z1]
     simp only[Act.put];refine bC (i:=7) (v:=(.slice (some ⟨w.heap.size+1,0,none⟩) k k)) (by kernel_rfl) (by decide) rfl (by kernel_rfl) (by kernel_rfl) (by kernel_rfl) (fun _ _ _ h=>h) (.inl ⟨rfl,fun V hV=>?_⟩) hS0 ?_
     ·obtain⟨z0,z1,z2,z3,z4,z5⟩:=hV
      simp[go_sem,execOp]
     simp only[Act.put];refine bC (i:=8) (v:=(.pointer (some ⟨wr.heap.size,0,none⟩))) (by kernel_rfl) (by decide) rfl (by kernel_rfl) (by kernel_rfl) (by kernel_rfl) (fun _ _ _ h=>h) (.inl ⟨rfl,fun V hV=>?_⟩) hS0 ?_
     ·obtain⟨z0,z1,z2,z3,z4,z5⟩:=hV
      simp[go_sem,execOp]
     simp only[Act.put];refine bC (i:=9) (v:=(.int .i64 (si:Int))) (by kernel_rfl) (by decide) rfl (by kernel_rfl) (by kernel_rfl) (by kernel_rfl) (fun _ _ _ h=>h) (.inl ⟨rfl,fun V hV=>?_⟩) hS0 ?_
     ·obtain⟨z0,z1,z2,z3,z4,z5⟩:=hV
      simp[go_sem,execOp,z0]
     simp only[Act.put];refine bC (i:=10) (v:=(.pointer (some ⟨w.heap.size+1,si,none⟩))) (by kernel_rfl) (by decide) rfl (by kernel_rfl) (by kernel_rfl) (by kernel_rfl) (fun _ _ _ h=>h) (.inl ⟨rfl,fun V hV=>?_⟩) hS0 ?_
     ·obtain⟨z0,z1,z2,z3,z4,z5⟩:=hV
      simp[go_sem,execOp,iI9Q]
     simp only[Act.put];refine bC (i:=11) (v:=(.slice (some ⟨w.heap.size+1+1+si,0,none⟩) k k)) (by kernel_rfl) (by decide) rfl (by kernel_rfl) (by kernel_rfl) (by kernel_rfl) (fun _ _ _ h=>h) (.inl ⟨rfl,fun V hV=>?_⟩) hS0 ?_
     ·obtain⟨z0,z1,z2,z3,z4,z5⟩:=hV
      simp[go_sem,execOp,z3]
     simp only[Act.put];refine bC (i:=12) (v:=(.pointer (some ⟨wr.heap.size,1,none⟩))) (by kernel_rfl) (by decide) rfl (by kernel_rfl) (by kernel_rfl) (by kernel_rfl) (fun _ _ _ h=>h) (.inl ⟨rfl,fun V hV=>?_⟩) hS0 ?_
     ·obtain⟨z0,z1,z2,z3,z4,z5⟩:=hV
      simp[go_sem,execOp]
     simp only[Act.put];refine bC (i:=13) (v:=(.int .i64 (di:Int))) (by kernel_rfl) (by decide) rfl (by kernel_rfl) (by kernel_rfl) (by kernel_rfl) (fun _ _ _ h=>h) (.inl ⟨rfl,fun V hV=>?_⟩) hS0 ?_
     ·obtain⟨z0,z1,z2,z3,z4,z5⟩:=hV
      simp[go_sem,execOp,z1]
     simp only[Act.put];refine bC (i:=14) (v:=(.pointer (some ⟨w.heap.size+1+1+si,di*2,none⟩))) (by kernel_rfl) (by decide) rfl (by kernel_rfl) (by kernel_rfl) (by kernel_rfl) (fun _ _ _ h=>h) (.inl ⟨rfl,fun V hV=>?_⟩) hS0 ?_
     ·obtain⟨z0,z1,z2,z3,z4,z5⟩:=hV
      simp[go_sem,execOp,jI9Q]
     simp only[Act.put];refine bC (i:=15) (v:=(.agg #[.int .i64 ms,.bool mo9Q])) (by kernel_rfl) (by decide) rfl (by kernel_rfl) (by kernel_rfl) (by kernel_rfl) (fun _ _ _ h=>h) (.inl ⟨rfl,fun V hV=>?_⟩) hS0 ?_
     ·obtain⟨z0,z1,z2,z3,z4,z5⟩:=hV
      simp[go_sem,execOp,z4,z5]
     simp only[Act.put];refine bC (i:=16) (v:=(.pointer (some ⟨wr.heap.size,2,none⟩))) (by kernel_rfl) (by decide) rfl (by kernel_rfl) (by kernel_rfl) (by kernel_rfl) (fun _ _ _ h=>h) (.inl ⟨rfl,fun V hV=>?_⟩) hS0 ?_
     ·obtain⟨z0,z1,z2,z3,z4,z5⟩:=hV
      simp[go_sem,execOp]
     simp only[Act.put];refine bC (i:=17) (v:=(.int .i64 ym)) (by kernel_rfl) (by decide) rfl (by kernel_rfl) (by kernel_rfl) (by kernel_rfl) (fun _ _ _ h=>h) (.inl ⟨rfl,fun V hV=>?_⟩) hS0 ?_
     ·obtain⟨z0,z1,z2,z3,z4,z5⟩:=hV
      simp[go_sem,execOp,z2]
     simp only[Act.put];refine bC (i:=18) (v:=(.agg #[.int .i64 ym,.bool true])) (by kernel_rfl) (by decide) rfl (by kernel_rfl) (by kernel_rfl) (by kernel_rfl) (fun _ _ _ h=>h) (.inl ⟨rfl,fun V hV=>?_⟩) hS0 ?_
     ·obtain⟨z0,z1,z2,z3,z4,z5⟩:=hV
      simp[go_sem,execOp]
     simp only[Act.put];refine ae 19 rfl (by kernel_rfl) (fun K hK=>?_);go_simp;go_at_call 176;refine(lesser_at _ _ _ _ _).mono ?_;rintro e w3 ⟨rfl,hb3⟩;go_wp2_with fail;have k0:=(hb3.cell (p:=⟨wr.heap.size,0,none⟩) l2).trans q0;have k1:=(hb3.cell (p:=⟨wr.heap.size,1,none⟩) l2).trans q1;have k2:=(hb3.cell (p:=⟨wr.heap.size,2,none⟩) l2).trans q2;have k3:=(hb3.cell (p:=⟨w.heap.size+1,si,none⟩) l3).trans q3;have k4:=(hb3.cell (p:=⟨w.heap.size+1+1+si,di*2,none⟩) l4).trans q4;have k5:=(hb3.cell (p:=⟨w.heap.size+1+1+si,di*2+1,none⟩) l4).trans q5;have hst3:=HST2.out.grow (W':=w3) (below_of_drew hb3);have k6:=(hst3.mat.cells hst3.dim iR9Q jR9Q).2.2;have HST3:=aa hst3;clear hst3 hb3;refine hK.out _ _ (.inr ⟨k0,k1,k2,k3,k4,k5⟩) ?_;clear hK K;(try simp only[Act.put,rI,rH,rJ]);refine ae 20 rfl (by kernel_rfl) (fun K hK=>?_);go_simp;refine hK.out _ _ (.inr ⟨k0,k1,k2,k3,k4,k5⟩) ?_;clear hK K;(try simp only[Act.put,rI,rH,rJ]);refine ae 21 rfl (by kernel_rfl) (fun K hK=>?_);go_simp;refine hK.out _ _ (.inl rfl) ?_;clear hK K;refine aw (by kernel_rfl) ?_ _;go_wp2_with fail;go_roundw
     case rel =>
      refine⟨q+1,by omega,by go_num,aa ?_⟩;rw[d9 _ _ _ hlt,HD.out,HX.out];have hh:=HST3.out.set iR9Q jR9Q (qT ⟨ms,mo9Q⟩ ⟨ym,true⟩);unfold mat1;simp only[Int.toNat_natCast];rw[HMD.out];exact hh
     case measure=>simp[intOf];omega
    ·have hqe : q = bs.length := by omega
     have hst4:Hid (MSt w wr k a bs.length cap (pivS k bs 0)):=aa (by
      have:=hst.out;rw[hqe,List.take_length] at this
      exact this)
     clear hst hqe;obtain⟨wB,rfl⟩:∃x:World,x=wr:=⟨wr,rfl⟩;go_wp2_with fail;clear e0 e1
     go_loopw [7] (fun i wr=>∃c:Nat,c≤k∧i=.int .i64 c∧Hid (MSt w wr k a bs.length cap (pivS k bs c))) (fun i _=>k-(intOf i).toNat)
     case atStart=>exact⟨0,by omega,rfl,hst4⟩
     case round =>
      obtain⟨c,hc,rfl,hst⟩:=hrel;have e0:wr.cell? ⟨w.heap.size,0,none⟩=some (.int .i64 (k:Int)):=bu hst.out.box rfl
      by_cases hlc:c<k
      ·obtain⟨wC,rfl⟩:∃x:World,x=wr:=⟨wr,rfl⟩
       have cI9Q:=iR0 c hlc;go_wp2_with fail;clear e0
       go_loopw [8] (fun i wr=>∃a1:Nat,a1≤k∧i=.int .i64 a1∧Hid (MSt w wr k a bs.length cap ((List.range a1).foldl (rowM k c) (pivS k bs c)))) (fun i _=>k-(intOf i).toNat)
       case atStart=>exact⟨0,by omega,rfl,hst⟩
       case round =>
        obtain⟨a1,ha,rfl,hst1⟩:=hrel;have e0:wr.cell? ⟨w.heap.size,0,none⟩=some (.int .i64 (k:Int)):=bu hst1.out.box rfl
        by_cases hla:a1<k
        ·obtain⟨wD,rfl⟩:∃x:World,x=wr:=⟨wr,rfl⟩
         have aI9Q:=iR0 a1 hla;go_wp2_with fail;clear e0
         go_loopw [9] (fun i wr=>∃b:Nat,b≤k∧i=.int .i64 b∧Hid (MSt w wr k a bs.length cap ((List.range b).foldl (cellM c a1) ((List.range a1).foldl (rowM k c) (pivS k bs c))))) (fun i _=>k-(intOf i).toNat)
         case atStart=>exact⟨0,by omega,rfl,hst1⟩
         case round =>
          obtain⟨b,hb,rfl,hst2⟩:=hrel;have e0:wr.cell? ⟨w.heap.size,0,none⟩=some (.int .i64 (k:Int)):=bu hst2.out.box rfl
          by_cases hlb:b<k
          ·have bI9Q:=iR0 b hlb
           obtain⟨d,hdd⟩:=ag ((List.range b).foldl (cellM c a1) ((List.range a1).foldl (rowM k c) (pivS k bs c)));have hrd:=(piv_read HV.out HN.out hR1 hlc hla hlb hdd).2;rw[hdd] at hst2;have HD:=aa hdd;clear hdd;obtain⟨acs,hacs⟩:=ag ((mget d a1 c).s);obtain⟨aco,haco⟩:=ag ((mget d a1 c).ok);obtain⟨cbs,hcbs⟩:=ag ((mget d c b).s);obtain⟨cbo,hcbo⟩:=ag ((mget d c b).ok);obtain⟨abs,habs⟩:=ag ((mget d a1 b).s);obtain⟨abo,habo⟩:=ag ((mget d a1 b).ok);have p0:=hst2.out.mat.slot hla;have p1:=hst2.out.mat.slot hlc;obtain⟨p2,p3,_⟩:=hst2.out.mat.cells hst2.out.dim hla hlb;obtain⟨p4,p5,_⟩:=hst2.out.mat.cells hst2.out.dim hla hlc;obtain⟨p6,p79Q,_⟩:=hst2.out.mat.cells hst2.out.dim hlc hlb;have r1:=hrd a1 c hla hlc;have r2:=hrd c b hlc hlb;rw[habs] at p2;rw[habo] at p3;rw[hacs] at p4 r1;rw[haco] at p5;rw[hcbs] at p6 r2;rw[hcbo] at p79Q;have l3:w.heap.size+1<wr.heap.size:=lt_of_block hst2.out.mat.out;have l4:w.heap.size+1+1+a1<wr.heap.size:=lt_of_block (hst2.out.mat.row a1 hla);have l5:w.heap.size+1+1+c<wr.heap.size:=lt_of_block (hst2.out.mat.row c hlc)
           have hdone:∀b':List (List Fr),(List.range (b+1)).foldl (cellM c a1) b'=cellM c a1 ((List.range b).foldl (cellM c a1) b') b:=fun b'=>by rw[List.range_succ,List.foldl_append];rfl
           have HDONE:=aa hdone;clear hrd hdone
           cases aco with
           | false =>
             have hskip:cellM c a1 d b=d:=by unfold cellM;rw[if_neg (by simp[haco])]
             have HSK:=aa hskip;clear hskip hacs haco hcbs hcbo habs habo p2 p3 p6 p79Q;go_wp2_with fail;go_roundw
             case rel=>exact⟨b+1,by omega,by go_num,aa (by rw[HDONE.out,HD.out,HSK.out];exact hst2.out)⟩
             case measure=>simp[intOf];omega
           | true =>
             cases cbo with
             | false =>
               have hskip:cellM c a1 d b=d:=by unfold cellM;rw[if_neg (by simp[hcbo])]
               have HSK:=aa hskip;clear hskip hacs haco hcbs hcbo habs habo p2 p3;go_wp2_with fail;go_roundw
               case rel=>exact⟨b+1,by omega,by go_num,aa (by rw[HDONE.out,HD.out,HSK.out];exact hst2.out)⟩
               case measure=>simp[intOf];omega
             | true =>
               have hmab:mget d a1 b=⟨abs,abo⟩:=by rw[←habs,←habo]
               have hmac:mget d a1 c=⟨acs,true⟩:=by rw[←hacs,←haco]
               have htake:cellM c a1 d b=mset d a1 b (qT ⟨abs,abo⟩ ⟨acs+cbs,true⟩):=by
                unfold cellM;rw[if_pos ⟨haco,hcbo⟩,hmab,hmac,hcbs]
                rfl
               have HTK:=aa htake;clear htake hmab hmac hacs haco hcbs hcbo habs habo;obtain⟨wE,rfl⟩:∃x:World,x=wr:=⟨wr,rfl⟩;go_upto_region 22 with fail;have iR9Q:a1<k:=hla;have jR9Q:b<k:=hlb;have cR9Q:c<k:=hlc;have iI9Q:=aI9Q;have jI9Q:=bI9Q;clear e0 p79Q;refine aJ (S:=fun V=>V.cell? ⟨w.heap.size+1,a1,none⟩=some (.slice (some ⟨w.heap.size+1+1+a1,0,none⟩) k k)∧V.cell? ⟨w.heap.size+1,c,none⟩=some (.slice (some ⟨w.heap.size+1+1+c,0,none⟩) k k)∧V.cell? ⟨w.heap.size+1+1+a1,b*2,none⟩=some (.int .i64 abs)∧V.cell? ⟨w.heap.size+1+1+a1,b*2+1,none⟩=some (.bool abo)∧V.cell? ⟨w.heap.size+1+1+a1,c*2,none⟩=some (.int .i64 acs)∧V.cell? ⟨w.heap.size+1+1+a1,c*2+1,none⟩=some (.bool true)∧V.cell? ⟨w.heap.size+1+1+c,b*2,none⟩=some (.int .i64 cbs)) (last:=30) (by kernel_rfl) ?_;have hS0:wE.drew.cell? ⟨w.heap.size+1,a1,none⟩=some (.slice (some ⟨w.heap.size+1+1+a1,0,none⟩) k k)∧wE.drew.cell? ⟨w.heap.size+1,c,none⟩=some (.slice (some ⟨w.heap.size+1+1+c,0,none⟩) k k)∧wE.drew.cell? ⟨w.heap.size+1+1+a1,b*2,none⟩=some (.int .i64 abs)∧wE.drew.cell? ⟨w.heap.size+1+1+a1,b*2+1,none⟩=some (.bool abo)∧wE.drew.cell? ⟨w.heap.size+1+1+a1,c*2,none⟩=some (.int .i64 acs)∧wE.drew.cell? ⟨w.heap.size+1+1+a1,c*2+1,none⟩=some (.bool true)∧wE.drew.cell? ⟨w.heap.size+1+1+c,b*2,none⟩=some (.int .i64 cbs):=⟨p0,p1,p2,p3,p4,p5,p6⟩;refine bC (i:=0) (v:=(.slice (some ⟨w.heap.size+1,0,none⟩) k k)) (by kernel_rfl) (by decide) rfl (by kernel_rfl) (by kernel_rfl) (by kernel_rfl) (fun _ _ _ h=>h) (.inl ⟨rfl,fun V hV=>?_⟩) hS0 ?_
               ·obtain⟨z0,z1,z2,z3,z4,z5,z69Q⟩:=hV
                simp[go_sem,execOp]
               simp only[Act.put,List.setIfInBounds_toArray];refine bC (i:=1) (v:=(.int .i64 (a1:Int))) (by kernel_rfl) (by decide) rfl (by kernel_rfl) (by kernel_rfl) (by kernel_rfl) (fun _ _ _ h=>h) (.inl ⟨rfl,fun V hV=>?_⟩) hS0 ?_
               ·obtain⟨z0,z1,z2,z3,z4,z5,z69Q⟩:=hV
                simp[go_sem,execOp]
               simp only[Act.put];refine bC (i:=2) (v:=(.pointer (some ⟨w.heap.size+1,a1,none⟩))) (by kernel_rfl) (by decide) rfl (by kernel_rfl) (by kernel_rfl) (by kernel_rfl) (fun _ _ _ h=>h) (.inl ⟨rfl,fun V hV=>?_⟩) hS0 ?_
               ·obtain⟨z0,z1,z2,z3,z4,z5,z69Q⟩:=hV
                simp[go_sem,execOp,iI9Q]
               simp only[Act.put];refine bC (i:=3) (v:=(.slice (some ⟨w.heap.size+1+1+a1,0,none⟩) k k)) (by kernel_rfl) (by decide) rfl (by kernel_rfl) (by kernel_rfl) (by kernel_rfl) (fun _ _ _ h=>h) (.inl ⟨rfl,fun V hV=>?_⟩) hS0 ?_
               ·obtain⟨z0,z1,z2,z3,z4,z5,z69Q⟩:=hV
                simp[go_sem,execOp,z0]
               simp only[Act.put];refine bC (i:=4) (v:=(.int .i64 (b:Int))) (by kernel_rfl) (by decide) rfl (by kernel_rfl) (by kernel_rfl) (by kernel_rfl) (fun _ _ _ h=>h) (.inl ⟨rfl,fun V hV=>?_⟩) hS0 ?_
               ·obtain⟨z0,z1,z2,z3,z4,z5,z69Q⟩:=hV
                simp[go_sem,execOp]
               simp only[Act.put];refine bC (i:=5) (v:=(.slice (some ⟨w.heap.size+1,0,none⟩) k k)) (by kernel_rfl) (by decide) rfl (by kernel_rfl) (by kernel_rfl) (by kernel_rfl) (fun _ _ _ h=>h) (.inl ⟨rfl,fun V hV=>?_⟩) hS0 ?_
               ·obtain⟨z0,z1,z2,z3,z4,z5,z69Q⟩:=hV
                simp[go_sem,execOp]
               simp only[Act.put];refine bC (i:=6) (v:=(.int .i64 (a1:Int))) (by kernel_rfl) (by decide) rfl (by kernel_rfl) (by kernel_rfl) (by kernel_rfl) (fun _ _ _ h=>h) (.inl ⟨rfl,fun V hV=>?_⟩) hS0 ?_
               ·obtain⟨z0,z1,z2,z3,z4,z5,z69Q⟩:=hV
                simp[go_sem,execOp]
               simp only[Act.put];refine bC (i:=7) (v:=(.pointer (some ⟨w.heap.size+1,a1,none⟩))) (by kernel_rfl) (by decide) rfl (by kernel_rfl) (by kernel_rfl) (by kernel_rfl) (fun _ _ _ h=>h) (.inl ⟨rfl,fun V hV=>?_⟩) hS0 ?_
               ·obtain⟨z0,z1,z2,z3,z4,z5,z69Q⟩:=hV
                simp[go_sem,execOp,iI9Q]
               simp only[Act.put];refine bC (i:=8) (v:=(.slice (some ⟨w.heap.size+1+1+a1,0,none⟩) k k)) (by kernel_rfl) (by decide) rfl (by kernel_rfl) (by kernel_rfl) (by kernel_rfl) (fun _ _ _ h=>h) (.inl ⟨rfl,fun V hV=>?_⟩) hS0 ?_
               ·obtain⟨z0,z1,z2,z3,z4,z5,z69Q⟩:=hV
                simp[go_sem,execOp,z0]
               simp only[Act.put];refine bC (i:=9) (v:=(.int .i64 (b:Int))) (by kernel_rfl) (by decide) rfl (by kernel_rfl) (by kernel_rfl) (by kernel_rfl) (fun _ _ _ h=>h) (.inl ⟨rfl,fun V hV=>?_⟩) hS0 ?_
               ·obtain⟨z0,z1,z2,z3,z4,z5,z69Q⟩:=hV
                simp[go_sem,execOp]
               simp only[Act.put];refine bC (i:=10) (v:=(.pointer (some ⟨w.heap.size+1+1+a1,b*2,none⟩))) (by kernel_rfl) (by decide) rfl (by kernel_rfl) (by kernel_rfl) (by kernel_rfl) (fun _ _ _ h=>h) (.inl ⟨rfl,fun V hV=>?_⟩) hS0 ?_
               ·obtain⟨z0,z1,z2,z3,z4,z5,z69Q⟩:=hV
                simp[go_sem,execOp,jI9Q]
               simp only[Act.put];refine bC (i:=11) (v:=(.agg #[.int .i64 abs,.bool abo])) (by kernel_rfl) (by decide) rfl (by kernel_rfl) (by kernel_rfl) (by kernel_rfl) (fun _ _ _ h=>h) (.inl ⟨rfl,fun V hV=>?_⟩) hS0 ?_
               ·obtain⟨z0,z1,z2,z3,z4,z5,z69Q⟩:=hV
                simp[go_sem,execOp,z2,z3]
               simp only[Act.put];refine bC (i:=12) (v:=(.slice (some ⟨w.heap.size+1,0,none⟩) k k)) (by kernel_rfl) (by decide) rfl (by kernel_rfl) (by kernel_rfl) (by kernel_rfl) (fun _ _ _ h=>h) (.inl ⟨rfl,fun V hV=>?_⟩) hS0 ?_
               ·obtain⟨z0,z1,z2,z3,z4,z5,z69Q⟩:=hV
                simp[go_sem,execOp]
               simp only[Act.put];refine bC (i:=13) (v:=(.int .i64 (a1:Int))) (by kernel_rfl) (by decide) rfl (by kernel_rfl) (by kernel_rfl) (by kernel_rfl) (fun _ _ _ h=>h) (.inl ⟨rfl,fun V hV=>?_⟩) hS0 ?_
               ·obtain⟨z0,z1,z2,z3,z4,z5,z69Q⟩:=hV
                simp[go_sem,execOp]
               simp only[Act.put];refine bC (i:=14) (v:=(.pointer (some ⟨w.heap.size+1,a1,none⟩))) (by kernel_rfl) (by decide) rfl (by kernel_rfl) (by kernel_rfl) (by kernel_rfl) (fun _ _ _ h=>h) (.inl ⟨rfl,fun V hV=>?_⟩) hS0 ?_
               ·obtain⟨z0,z1,z2,z3,z4,z5,z69Q⟩:=hV
                simp[go_sem,execOp,iI9Q]
               simp only[Act.put];refine bC (i:=15) (v:=(.slice (some ⟨w.heap.size+1+1+a1,0,none⟩) k k)) (by kernel_rfl) (by decide) rfl (by kernel_rfl) (by kernel_rfl) (by kernel_rfl) (fun _ _ _ h=>h) (.inl ⟨rfl,fun V hV=>?_⟩) hS0 ?_
               ·obtain⟨z0,z1,z2,z3,z4,z5,z69Q⟩:=hV
                simp[go_sem,execOp,z0]
               simp only[Act.put];refine bC (i:=16) (v:=(.int .i64 (c:Int))) (by kernel_rfl) (by decide) rfl (by kernel_rfl) (by kernel_rfl) (by kernel_rfl) (fun _ _ _ h=>h) (.inl ⟨rfl,fun V hV=>?_⟩) hS0 ?_
               ·obtain⟨z0,z1,z2,z3,z4,z5,z69Q⟩:=hV
                simp[go_sem,execOp]
               simp only[Act.put];refine bC (i:=17) (v:=(.pointer (some ⟨w.heap.size+1+1+a1,c*2,none⟩))) (by kernel_rfl) (by decide) rfl (by kernel_rfl) (by kernel_rfl) (by kernel_rfl) (fun _ _ _ h=>h) (.inl ⟨rfl,fun V hV=>?_⟩) hS0 ?_
               ·obtain⟨z0,z1,z2,z3,z4,z5,z69Q⟩:=hV
                simp[go_sem,execOp,cI9Q]
               simp only[Act.put];refine bC (i:=18) (v:=(.agg #[.int .i64 acs,.bool true])) (by kernel_rfl) (by decide) rfl (by kernel_rfl) (by kernel_rfl) (by kernel_rfl) (fun _ _ _ h=>h) (.inl ⟨rfl,fun V hV=>?_⟩) hS0 ?_
               ·obtain⟨z0,z1,z2,z3,z4,z5,z69Q⟩:=hV
                simp[go_sem,execOp,z4,z5]
               simp only[Act.put];refine bC (i:=19) (v:=(.slice (some ⟨w.heap.size+1,0,none⟩) k k)) (by kernel_rfl) (by decide) rfl (by kernel_rfl) (by kernel_rfl) (by kernel_rfl) (fun _ _ _ h=>h) (.inl ⟨rfl,fun V hV=>?_⟩) hS0 ?_
               ·obtain⟨z0,z1,z2,z3,z4,z5,z69Q⟩:=hV
                simp[go_sem,execOp]
               simp only[Act.put];refine bC (i:=20) (v:=(.int .i64 (c:Int))) (by kernel_rfl) (by decide) rfl (by kernel_rfl) (by kernel_rfl) (by kernel_rfl) (fun _ _ _ h=>h) (.inl ⟨rfl,fun V hV=>?_⟩) hS0 ?_
               ·obtain⟨z0,z1,z2,z3,z4,z5,z69Q⟩:=hV
                simp[go_sem,execOp]
               simp only[Act.put];refine bC (i:=21) (v:=(.pointer (some ⟨w.heap.size+1,c,none⟩))) (by kernel_rfl) (by decide) rfl (by kernel_rfl) (by kernel_rfl) (by kernel_rfl) (fun _ _ _ h=>h) (.inl ⟨rfl,fun V hV=>?_⟩) hS0 ?_
               ·obtain⟨z0,z1,z2,z3,z4,z5,z69Q⟩:=hV
                simp[go_sem,execOp,cI9Q]
               simp only[Act.put];refine bC (i:=22) (v:=(.slice (some ⟨w.heap.size+1+1+c,0,none⟩) k k)) (by kernel_rfl) (by decide) rfl (by kernel_rfl) (by kernel_rfl) (by kernel_rfl) (fun _ _ _ h=>h) (.inl ⟨rfl,fun V hV=>?_⟩) hS0 ?_
               ·obtain⟨z0,z1,z2,z3,z4,z5,z69Q⟩:=hV
                simp[go_sem,execOp,z1]
               simp only[Act.put];refine bC (i:=23) (v:=(.int .i64 (b:Int))) (by kernel_rfl) (by decide) rfl (by kernel_rfl) (by kernel_rfl) (by kernel_rfl) (fun _ _ _ h=>h) (.inl ⟨rfl,fun V hV=>?_⟩) hS0 ?_
               ·obtain⟨z0,z1,z2,z3,z4,z5,z69Q⟩:=hV
                simp[go_sem,execOp]
               simp only[Act.put];refine bC (i:=24) (v:=(.pointer (some ⟨w.heap.size+1+1+c,b*2,none⟩))) (by kernel_rfl) (by decide) rfl (by kernel_rfl) (by kernel_rfl) (by kernel_rfl) (fun _ _ _ h=>h) (.inl ⟨rfl,fun V hV=>?_⟩) hS0 ?_
               ·obtain⟨z0,z1,z2,z3,z4,z5,z69Q⟩:=hV
                simp[go_sem,execOp,jI9Q]
               simp only[Act.put];refine bC (i:=25) (v:=(.pointer (some ⟨w.heap.size+1+1+c,b*2,none⟩))) (by kernel_rfl) (by decide) rfl (by kernel_rfl) (by kernel_rfl) (by kernel_rfl) (fun _ _ _ h=>h) (.inl ⟨rfl,fun V hV=>?_⟩) hS0 ?_
               ·obtain⟨z0,z1,z2,z3,z4,z5,z69Q⟩:=hV
                simp[go_sem,execOp]
               simp only[Act.put];refine bC (i:=26) (v:=(.int .i64 cbs)) (by kernel_rfl) (by decide) rfl (by kernel_rfl) (by kernel_rfl) (by kernel_rfl) (fun _ _ _ h=>h) (.inl ⟨rfl,fun V hV=>?_⟩) hS0 ?_
               ·obtain⟨z0,z1,z2,z3,z4,z5,z69Q⟩:=hV
                simp[go_sem,execOp,z69Q]
               simp only[Act.put];refine ae 27 rfl (by kernel_rfl) (fun K hK=>?_);go_simp;go_at_call 177;refine(plus_at _ _ _ _ (by omega) (by omega) (by omega) (by omega)).mono ?_;rintro e w3 ⟨rfl,hb3⟩;go_wp2_with fail;have k0:=(hb3.cell (p:=⟨w.heap.size+1,a1,none⟩) l3).trans p0;have k1:=(hb3.cell (p:=⟨w.heap.size+1,c,none⟩) l3).trans p1;have k2:=(hb3.cell (p:=⟨w.heap.size+1+1+a1,b*2,none⟩) l4).trans p2;have k3:=(hb3.cell (p:=⟨w.heap.size+1+1+a1,b*2+1,none⟩) l4).trans p3;have k4:=(hb3.cell (p:=⟨w.heap.size+1+1+a1,c*2,none⟩) l4).trans p4;have k5:=(hb3.cell (p:=⟨w.heap.size+1+1+a1,c*2+1,none⟩) l4).trans p5;have k6:=(hb3.cell (p:=⟨w.heap.size+1+1+c,b*2,none⟩) l5).trans p6;have HST3:=aa (hst2.out.grow (W':=w3) (below_of_drew hb3));have l3:w.heap.size+1<w3.heap.size:=lt_of_block HST3.out.mat.out;have l4:w.heap.size+1+1+a1<w3.heap.size:=lt_of_block (HST3.out.mat.row a1 hla);have l5:w.heap.size+1+1+c<w3.heap.size:=lt_of_block (HST3.out.mat.row c hlc);clear hb3 p0 p1 p2 p3 p4 p5 p6;refine hK.out _ _ (.inr ⟨k0,k1,k2,k3,k4,k5,k6⟩) ?_;clear hK K;(try simp only[Act.put,rI,rH,rJ]);refine ae 28 rfl (by kernel_rfl) (fun K hK=>?_);go_simp;go_at_call 176;refine(lesser_at _ _ _ _ _).mono ?_;rintro e w4 ⟨rfl,hb4⟩;go_wp2_with fail;have n0:=(hb4.cell (p:=⟨w.heap.size+1,a1,none⟩) l3).trans k0;have n1:=(hb4.cell (p:=⟨w.heap.size+1,c,none⟩) l3).trans k1;have n2:=(hb4.cell (p:=⟨w.heap.size+1+1+a1,b*2,none⟩) l4).trans k2;have n3:=(hb4.cell (p:=⟨w.heap.size+1+1+a1,b*2+1,none⟩) l4).trans k3;have n4:=(hb4.cell (p:=⟨w.heap.size+1+1+a1,c*2,none⟩) l4).trans k4;have n5:=(hb4.cell (p:=⟨w.heap.size+1+1+a1,c*2+1,none⟩) l4).trans k5;have n6:=(hb4.cell (p:=⟨w.heap.size+1+1+c,b*2,none⟩) l5).trans k6;have HST4:=aa (HST3.out.grow (W':=w4) hb4);have n7:=(HST4.out.mat.cells HST4.out.dim hla hlb).2.2;clear hb4 k0 k1 k2 k3 k4 k5 k6;refine hK.out _ _ (.inr ⟨n0,n1,n2,n3,n4,n5,n6⟩) ?_;clear hK K;(try simp only[Act.put,rI,rH,rJ]);refine ae 29 rfl (by kernel_rfl) (fun K hK=>?_);go_simp;refine hK.out _ _ (.inr ⟨n0,n1,n2,n3,n4,n5,n6⟩) ?_;clear hK K;(try simp only[Act.put,rI,rH,rJ]);refine ae 30 rfl (by kernel_rfl) (fun K hK=>?_);go_simp;refine hK.out _ _ (.inl rfl) ?_;clear hK K;refine aw (by kernel_rfl) ?_ _;go_wp2_with fail;go_roundw
               case rel =>
                refine⟨b+1,by omega,by go_num,aa ?_⟩;rw[HDONE.out,HD.out,HTK.out];exact HST4.out.set hla hlb _
               case measure=>simp[intOf];omega
          ·obtain rfl:b=k:=by omega
           go_wp2_with fail;go_roundw
           case rel=>exact⟨a1+1,by omega,by go_num,aa (by rw[List.range_succ,List.foldl_append];exact hst2.out)⟩
           case measure=>simp[intOf];omega
        ·obtain rfl:a1=k:=by omega
         go_wp2_with fail;go_roundw
         case rel=>exact⟨c+1,by omega,by go_num,aa (by rw[pivS_succ];exact hst1.out)⟩
         case measure=>simp[intOf];omega
      ·obtain rfl:c=k:=by omega
       have HF:=hst;go_wp2_with fail;go_ret;exact⟨rfl,HF.out.mat,HF.out.bl⟩
theorem matrix_net (w:World) (R:Nat) (a:Option Addr) (cap:Nat) (bs:List Bd) (t:List Int) (H:NetOk R bs t) (h40:R≤40) (hB:BoundsAt w a bs) :
 Calls prog 98 #[.agg #[.int .i64 (R:Int),.slice a bs.length cap]] w fun e w'=>e=.returned (.slice (some ⟨w.heap.size+1,0,none⟩) R R)∧MatAt w' (w.heap.size+1) R (matrixP R bs)∧Below w.heap.size w w' :=
 matrix_any w R a cap bs H.n0 h40 (by have:=H.len;omega) hB H.valid H.noNeg
theorem matrix_dim {R:Nat} {bs:List Bd} {t:List Int} (H:NetOk R bs t):Dim R (matrixP R bs):=(pivS_ok H.valid H.noNeg (Nat.le_refl R)).1
theorem matrix_size {R:Nat} {bs:List Bd} {t:List Int} (H:NetOk R bs t) (h40:R≤40) {i j:Nat} (hi:i<R) (hj:j<R):-2000000000000000000≤(mget (matrixP R bs) i j).s∧(mget (matrixP R bs) i j).s≤2000000000000000000:=by
 have h:=pivS_bd H.valid H.noNeg R (Nat.le_refl R) i j hi hj;have hp:=pow2_le R 40 h40;rw[pow2_40] at hp;have hp0:=pow2_pos R;have e:pivS R bs R=matrixP R bs:=rfl;rw[e] at h;omega
structure SpSt (w W:World) (B R:Nat) (d:List (List Fr)) (c:Array Value):Prop where
 x6:W.heap[w.heap.size]?=some (.cells #[.int .i64 0,.int .i64 0,.bool false,.bool false] 115 (0,0))
 x79Q:W.heap[w.heap.size+1]?=some (.cells c 115 (0,0))
 mat:MatAt W B R d
 lB9Q:B<w.heap.size
 lr:∀i,i<R→B+1+i<w.heap.size
 bl:Below w.heap.size w W
theorem SpSt.set {w W:World} {B R:Nat} {d:List (List Fr)} {c:Array Value} (h:SpSt w W B R d c) (i:Nat) (v:Value):SpSt w (W.setCell ⟨w.heap.size+1,i,none⟩ v) B R d (c.setIfInBounds i v) :=
 ⟨by rw[heap_setCell_other _ _ _ _ (by simp)];exact h.x6,heap_setCell_same _ _ _ _ _ _ h.x79Q,
  ⟨by rw[heap_setCell_other _ _ _ _ (by have:=h.lB9Q;simp;omega)];exact h.mat.out,fun k hk=>by rw[heap_setCell_other _ _ _ _ (by have:=h.lr k hk;simp;omega)];exact h.mat.row k hk⟩,h.lB9Q,h.lr,h.bl.setCell (by simp) _⟩
theorem refspan_any (w:World) (B R:Nat) (d:List (List Fr)) (x y:Nat) (hm:MatAt w B R d) (hd:Dim R d) (hx:x<R) (hy:y<R) (hb0:-2000000000000000000≤(mget d y x).s) (hb1:(mget d y x).s≤2000000000000000000) :
 Calls prog 220 #[.slice (some ⟨B,0,none⟩) R R,.int .i64 (x:Int),.int .i64 (y:Int)] w fun e w'=>e=.returned (.agg (spanR d x y).arr)∧Below w.heap.size w w':=by
 obtain⟨W1,hW1⟩:∃W1,W1=(w.alloc (.cells #[.int .i64 0,.int .i64 0,.bool false,.bool false] 115)).alloc (.cells #[.int .i64 0,.int .i64 0,.bool false,.bool false] 115):=⟨_,rfl⟩
 have hbl:Below w.heap.size w W1:=by rw[hW1];exact(aD).alloc (by simp) _
 have st1:SpSt w W1 B R d #[.int .i64 0,.int .i64 0,.bool false,.bool false] :=
  ⟨by rw[hW1,Below.heap_alloc _ _ _ (by simp),heap_alloc_new],by rw[hW1,af _ _ _ (by simp)],hm.below hbl,lt_of_block hm.out,fun i hi=>lt_of_block (hm.row i hi),hbl⟩
 obtain⟨⟨s1,o1⟩,h1⟩:=ag (mget d x y);obtain⟨⟨s2,o2⟩,h2⟩:=ag (mget d y x)
 have hs:spanR d x y=⟨-frV ⟨s2,o2⟩,frV ⟨s1,o1⟩,o2,o1⟩:=by unfold spanR;rw[h1,h2]
 rw[h2] at hb0 hb1;simp only at hb0 hb1;have hw:IntKind.i64.wrap (-s2)=-s2:=IntWalk.i64_in _ (by omega)
 have xR9Q:(x:Int)<(R:Int):=by omega
 have yR9Q:(y:Int)<(R:Int):=by omega
 have HS:=aa hs;have ST1:=aa st1;have HW1:=aa hW1;have H1:=aa h1;have H2:=aa h2;have HDI:=aa hd;clear hs st1 hW1 h1 h2 hd hm hbl
 have facts:∀(W:World) (c:Array Value),SpSt w W B R d c→W.cell? ⟨B,x,none⟩=some (.slice (some ⟨B+1+x,0,none⟩) R R)∧W.cell? ⟨B,y,none⟩=some (.slice (some ⟨B+1+y,0,none⟩) R R) ∧
  W.cell? ⟨B+1+x,y*2,none⟩=some (.int .i64 s1)∧W.cell? ⟨B+1+x,y*2+1,none⟩=some (.bool o1)∧W.cell? ⟨B+1+y,x*2,none⟩=some (.int .i64 s2)∧W.cell? ⟨B+1+y,x*2+1,none⟩=some (.bool o2):=by
  intro W c h;have c1:=h.mat.cells HDI.out hx hy;have c2:=h.mat.cells HDI.out hy hx;rw[H1.out] at c1;rw[H2.out] at c2;exact⟨h.mat.slot hx,h.mat.slot hy,c1.1,c1.2.1,c2.1,c2.2.1⟩
 have fin:∀(W:World) (u0 u1 u2 u3:Value),SpSt w W B R d #[u0,u1,u2,u3]→W.cell? ⟨w.heap.size,0,none⟩=some (.int .i64 0)∧W.cell? ⟨w.heap.size,1,none⟩=some (.int .i64 0)∧W.cell? ⟨w.heap.size,2,none⟩=some (.bool false)∧W.cell? ⟨w.heap.size,3,none⟩=some (.bool false)∧(∀i,W.frozen? ⟨w.heap.size,i,none⟩=false) ∧
  W.cell? ⟨w.heap.size+1,0,none⟩=some u0∧W.cell? ⟨w.heap.size+1,1,none⟩=some u1∧W.cell? ⟨w.heap.size+1,2,none⟩=some u2∧W.cell? ⟨w.heap.size+1,3,none⟩=some u3∧(∀i,W.frozen? ⟨w.heap.size+1,i,none⟩=false):=by
  intro W u0 u1 u2 u3 h;refine⟨?_,?_,?_,?_,fun i=>frozen_of_row _ _ _ _ _ h.x6,?_,?_,?_,?_,fun i=>frozen_of_row _ _ _ _ _ h.x79Q⟩
  ·rw[cell_of_row _ _ _ _ _ _ h.x6];rfl
  ·rw[cell_of_row _ _ _ _ _ _ h.x6];rfl
  ·rw[cell_of_row _ _ _ _ _ _ h.x6];rfl
  ·rw[cell_of_row _ _ _ _ _ _ h.x6];rfl
  ·rw[cell_of_row _ _ _ _ _ _ h.x79Q];rfl
  ·rw[cell_of_row _ _ _ _ _ _ h.x79Q];rfl
  ·rw[cell_of_row _ _ _ _ _ _ h.x79Q];rfl
  ·rw[cell_of_row _ _ _ _ _ _ h.x79Q];rfl
 have HFA:=aa facts;have HFI:=aa fin;clear facts fin;go_enter func220,ntmps220;go_upto_region 2 with fail;rw[←HW1.out];obtain⟨p0,p1,p2,p3,p4,p5⟩:=HFA.out _ _ ST1.out;obtain⟨g0,g1,g2,g3,g4,g5,g6,g79Q,g89Q,g99Q⟩:=HFI.out _ _ _ _ _ ST1.out
 have second:∀(W:World) (hv:Int) (hb:Bool),SpSt w W B R d #[.int .i64 0,.int .i64 hv,.bool false,.bool hb]→True:=fun _ _ _ _=>trivial
 clear second
 cases o1 with
 | false =>
   cases o2 with
   | false =>
     go_upto_region 8 with fail;go_wp2_with fail;refine bodyPost_ret (v:=.agg #[.int .i64 0,.int .i64 0,.bool false,.bool false]) (by simp[results,results220,go_sem,g0,g1,g2,g3]) rfl ⟨by rw[HS.out];rfl,?_⟩;exact(((ST1.out.bl.setCell (by simp) _).setCell (by simp) _).setCell (by simp) _).setCell (by simp) _
   | true =>
     go_upto_region 8 with fail;obtain⟨W4,hW4⟩:∃W4,W4=(W1.setCell ⟨w.heap.size+1,0,none⟩ (.int .i64 (-s2))).setCell ⟨w.heap.size+1,2,none⟩ (.bool true):=⟨_,rfl⟩;rw[←hW4]
     have st4:SpSt w W4 B R d #[.int .i64 (-s2),.int .i64 0,.bool true,.bool false]:=by rw[hW4];exact(ST1.out.set 0 _).set 2 _
     clear g0 g1 g2 g3 g4 g5 g6 g79Q g89Q g99Q p0 p1 p2 p3 p4 p5 hW4;obtain⟨g0,g1,g2,g3,g4,g5,g6,g79Q,g89Q,g99Q⟩:=HFI.out _ _ _ _ _ st4;have B4:=aa st4.bl;clear st4;go_wp2_with fail;refine bodyPost_ret (v:=.agg #[.int .i64 (-s2),.int .i64 0,.bool true,.bool false]) (by simp[results,results220,go_sem,g0,g1,g2,g3]) rfl ⟨by rw[HS.out];rfl,?_⟩;exact(((B4.out.setCell (by simp) _).setCell (by simp) _).setCell (by simp) _).setCell (by simp) _
 | true =>
   go_upto_region 5 with fail;obtain⟨W3,hW3⟩:∃W3,W3=(W1.setCell ⟨w.heap.size+1,1,none⟩ (.int .i64 s1)).setCell ⟨w.heap.size+1,3,none⟩ (.bool true):=⟨_,rfl⟩;rw[←hW3]
   have st3:SpSt w W3 B R d #[.int .i64 0,.int .i64 s1,.bool false,.bool true]:=by rw[hW3];exact(ST1.out.set 1 _).set 3 _
   clear g0 g1 g2 g3 g4 g5 g6 g79Q g89Q g99Q p0 p1 p2 p3 p4 p5 hW3;obtain⟨p0,p1,p2,p3,p4,p5⟩:=HFA.out _ _ st3;obtain⟨g0,g1,g2,g3,g4,g5,g6,g79Q,g89Q,g99Q⟩:=HFI.out _ _ _ _ _ st3;have ST3:=aa st3;clear st3
   cases o2 with
   | false =>
     go_upto_region 8 with fail;go_wp2_with fail;refine bodyPost_ret (v:=.agg #[.int .i64 0,.int .i64 s1,.bool false,.bool true]) (by simp[results,results220,go_sem,g0,g1,g2,g3]) rfl ⟨by rw[HS.out];rfl,?_⟩;exact(((ST3.out.bl.setCell (by simp) _).setCell (by simp) _).setCell (by simp) _).setCell (by simp) _
   | true =>
     go_upto_region 8 with fail;obtain⟨W4,hW4⟩:∃W4,W4=(W3.setCell ⟨w.heap.size+1,0,none⟩ (.int .i64 (-s2))).setCell ⟨w.heap.size+1,2,none⟩ (.bool true):=⟨_,rfl⟩;rw[←hW4]
     have st4:SpSt w W4 B R d #[.int .i64 (-s2),.int .i64 s1,.bool true,.bool true]:=by rw[hW4];exact(ST3.out.set 0 _).set 2 _
     clear g0 g1 g2 g3 g4 g5 g6 g79Q g89Q g99Q p0 p1 p2 p3 p4 p5 hW4;obtain⟨g0,g1,g2,g3,g4,g5,g6,g79Q,g89Q,g99Q⟩:=HFI.out _ _ _ _ _ st4;have B4:=aa st4.bl;clear st4;go_wp2_with fail;refine bodyPost_ret (v:=.agg #[.int .i64 (-s2),.int .i64 s1,.bool true,.bool true]) (by simp[results,results220,go_sem,g0,g1,g2,g3]) rfl ⟨by rw[HS.out];rfl,?_⟩;exact(((B4.out.setCell (by simp) _).setCell (by simp) _).setCell (by simp) _).setCell (by simp) _
theorem refbetween_any (w:World) (N:Int) (a:Option Addr) (cap:Nat) (bs:List Bd) (x y:Int) (hN:bK N) (hl:bs.length≤9223372036854775807) (h:BoundsAt w a bs) (hsm:aO N bs=0→N≤40) :
 Calls prog 142 #[.agg #[.int .i64 N,.slice a bs.length cap],.int .i64 x,.int .i64 y] w fun e w'=>e=.returned (.tuple #[.agg (dh N bs x y).1.arr,.int .i64 (dh N bs x y).2])∧Below w.heap.size w w':=by
 have H:=aa h;have HN:=aa hN;clear h hN;have hB0:Below w.heap.size w (((w.alloc (.cells #[.int .i64 N,.slice a bs.length cap] 61)).alloc (.cells #[.int .i64 0,.int .i64 0,.bool false,.bool false] 115)).alloc (.cells #[.int .i64 x,.int .i64 y] 3)):=(((aD).alloc (by simp) _).alloc (by simp;omega) _)
 have hx0:(((w.alloc (.cells #[.int .i64 N,.slice a bs.length cap] 61)).alloc (.cells #[.int .i64 0,.int .i64 0,.bool false,.bool false] 115)).alloc (.cells #[.int .i64 x,.int .i64 y] 3)).heap[w.heap.size]?=some (.cells #[.int .i64 N,.slice a bs.length cap] 61 (0,0)) :=
  (Below.heap_alloc _ _ _ (by simp;omega)).trans ((Below.heap_alloc _ _ _ (by simp)).trans (heap_alloc_new _ _))
 have hints:=rL ((w.alloc (.cells #[.int .i64 N,.slice a bs.length cap] 61)).alloc (.cells #[.int .i64 0,.int .i64 0,.bool false,.bool false] 115)) x y;simp only[World.size_alloc] at hints
 have hask:Calls prog 195 #[.agg #[.int .i64 N,.slice a bs.length cap],.slice (some ⟨w.heap.size+1+1,0,none⟩) 2 2] (((w.alloc (.cells #[.int .i64 N,.slice a bs.length cap] 61)).alloc (.cells #[.int .i64 0,.int .i64 0,.bool false,.bool false] 115)).alloc (.cells #[.int .i64 x,.int .i64 y] 3)) _ :=
  pointed_any _ N a cap bs (some ⟨w.heap.size+1+1,0,none⟩) 2 [x,y] HN.out hl (by simp) (((H.out.alloc (.cells #[.int .i64 N,.slice a bs.length cap] 61)).alloc (.cells #[.int .i64 0,.int .i64 0,.bool false,.bool false] 115)).alloc (.cells #[.int .i64 x,.int .i64 y] 3)) hints
 clear hints
 have hz0:(((w.alloc (.cells #[.int .i64 N,.slice a bs.length cap] 61)).alloc (.cells #[.int .i64 0,.int .i64 0,.bool false,.bool false] 115)).alloc (.cells #[.int .i64 x,.int .i64 y] 3)).heap[w.heap.size+1]?=some (.cells #[.int .i64 0,.int .i64 0,.bool false,.bool false] 115 (0,0)) :=
  (Below.heap_alloc _ _ _ (by simp)).trans (af _ _ _ (by simp))
 have HZ0:=aa hz0;have X0:=aa hx0;clear hz0 hx0
 by_cases he:bc N bs [x,y]=0
 ·have h40:=hsm (iQ he).1
  obtain⟨R,x',y',t,rfl,rfl,rfl,hx,hy,ht,HO⟩:=zI he
  have h40':R≤40:=by omega
  rw[he] at hask
  have hd:dh R bs x' y'=(spanR (matrixP R bs) x' y',0):=by unfold dh;rw[if_pos he,spanR_eq HO ht hx hy];simp
  have hdim:=matrix_dim HO;have hsz:=matrix_size HO h40' hy hx;obtain⟨d,hdd⟩:=ag (matrixP R bs)
  have hmat:=fun W hb=>matrix_net W R a cap bs t HO h40' hb
  rw[hdd] at hd hdim hmat hsz
  have hspan:=fun W hm=>refspan_any W (W.heap.size+1) R d x' y' hm hdim hx hy hsz.1 hsz.2
  clear hspan;obtain⟨⟨l1,l2,l3,l4⟩,hsv⟩:=ag (spanR d x' y');have HSP:=aa (fun W B hm=>refspan_any W B R d x' y' hm hdim hx hy hsz.1 hsz.2);rw[hsv] at hd HSP;have HD:=aa hd;have HM:=aa hmat;have HA:=aa hask;clear hd hmat hask hdd he ht hdim HO hsv hsz;go_enter func142,ntmps142;go_wp2_with fail;refine HA.out.mono ?_;rintro e w1 ⟨rfl,hb1⟩;have x1:=ac hb1 (by simp;omega) X0.out;have z1:=ac hb1 (by simp) HZ0.out;have e0:w1.cell? ⟨w.heap.size,0,none⟩=some (.int .i64 (R:Int)):=bu x1 rfl;have e1:w1.cell? ⟨w.heap.size,1,none⟩=some (.slice a bs.length cap):=bu x1 rfl;have B1:=aa (bB hB0 hb1);have Z1:=aa z1;clear x1 hb1 z1;go_wp2_with fail;refine(HM.out _ (H.out.below B1.out (Nat.le_refl _))).mono ?_;rintro e w2 ⟨rfl,hm,hb2⟩;have z2:=ac hb2 (lt_of_block Z1.out) Z1.out;have B2:=bU B1 hb2;have Z2:=aa z2;have HMA:=aa hm;clear hb2 e0 e1 hm z2;go_wp2_with fail;refine(HSP.out _ _ HMA.out).mono ?_;rintro e w3 ⟨rfl,hb3⟩;have hz2:=ac hb3 (lt_of_block Z2.out) Z2.out
  have f0:∀i,w3.frozen? ⟨w.heap.size+1,i,none⟩=false:=fun i=>frozen_of_row _ _ _ _ _ hz2
  have e0:w3.cell? ⟨w.heap.size+1,0,none⟩=some (.int .i64 0):=bu hz2 rfl;have e1:w3.cell? ⟨w.heap.size+1,1,none⟩=some (.int .i64 0):=bu hz2 rfl;have e2:w3.cell? ⟨w.heap.size+1,2,none⟩=some (.bool false):=bu hz2 rfl;have e3:w3.cell? ⟨w.heap.size+1,3,none⟩=some (.bool false):=bu hz2 rfl;have HB2:=bU B2 hb3;clear hz2 hb3;unfold Sp.arr;simp only;go_wp2_with fail;refine bodyPost_ret (v:=.tuple #[.agg #[.int .i64 l1,.int .i64 l2,.bool l3,.bool l4],.int .i64 0]) (by simp[results,results142,go_sem,e0,e1,e2,e3]) rfl ⟨?_,?_⟩
  ·rw[HD.out];rfl
  ·exact(((HB2.out.setCell (by simp) _).setCell (by simp) _).setCell (by simp) _).setCell (by simp) _
 ·have hd:dh N bs x y=(sp0,bc N bs [x,y]):=by unfold dh;rw[if_neg he]
  obtain⟨c,hc⟩:=ag (bc N bs [x,y]);rw[hc] at hd hask he
  have hc2:(c != 0)=true:=by simpa using he
  have HD:=aa hd;have HA:=aa hask;clear hd he hc hask;go_enter func142,ntmps142;go_wp2_with fail;refine HA.out.mono ?_;rintro e w1 ⟨rfl,hb1⟩;have hz2:=ac hb1 (by simp) HZ0.out
  have f0:∀i,w1.frozen? ⟨w.heap.size+1,i,none⟩=false:=fun i=>frozen_of_row _ _ _ _ _ hz2
  have e0:w1.cell? ⟨w.heap.size+1,0,none⟩=some (.int .i64 0):=bu hz2 rfl;have e1:w1.cell? ⟨w.heap.size+1,1,none⟩=some (.int .i64 0):=bu hz2 rfl;have e2:w1.cell? ⟨w.heap.size+1,2,none⟩=some (.bool false):=bu hz2 rfl;have e3:w1.cell? ⟨w.heap.size+1,3,none⟩=some (.bool false):=bu hz2 rfl;have HB1:=aa (bB hB0 hb1);clear hz2 hb1;go_wp2_with fail;refine bodyPost_ret (v:=.tuple #[.agg sp0.arr,.int .i64 c]) (by simp[results,results142,go_sem,sp0,Sp.arr,e0,e1,e2,e3]) rfl ⟨?_,?_⟩
  ·rw[HD.out]
  ·exact(((HB1.out.setCell (by simp) _).setCell (by simp) _).setCell (by simp) _).setCell (by simp) _
theorem rnorm_any (d:Int) (_h0:-1000000≤d) (_h1:d≤1000000) (w:World):Calls prog 312 #[.int .i64 d] w fun e w'=>e=.returned (.int .i64 (cz d))∧w=w':=by
 rw[←normR_eq];unfold normR;have t1:-360<d.tmod 360∧d.tmod 360<360:=⟨by have:=Int.lt_tmod_of_pos d (b:=360) (by omega);omega,Int.tmod_lt_of_pos d (by omega)⟩
 by_cases hq:d.tmod 360<0
 all_goals
  first|rw[if_pos hq]|rw[if_neg hq]
  go_enter func312,ntmps312;go_wp2_with fail;go_ret;exact⟨rfl,rfl⟩
theorem rsines_any (w:World):Calls prog 350 #[] w fun e w'=>e=.returned (.slice (some ⟨w.heap.size,0,none⟩) 91 91)∧Hid (∀i,w'.cell? ⟨w.heap.size,i,none⟩=ot[i]?)∧Below w.heap.size w w':=by
 obtain⟨A,hA⟩:=ag ((sinT.map (Value.int .i64)).toArray);have hA2:ot=A:=hA;rw[hA2];have hA3:=aa hA;clear hA hA2;go_enter func350,ntmps350;go_wp2_with (refine wpList_buildFlat rfl 52 3 91 _ rfl .i64 sinT underlying52 (by kernel_rfl) (by kernel_rfl) rfl (by omega) (by omega) (by kernel_rfl) ?_;rw[hA3.out]);go_ret;exact⟨rfl,aa (ak (heap_alloc_new _ _)),aD⟩
theorem rsinLow_any (d:Int) (h0:-1000000≤d) (h1:d≤1000000) (hn:cz d≤180) (w:World):Calls prog 335 #[.int .i64 d] w fun e w'=>e=.returned (.int .i64 (mX (cz d)))∧Below w.heap.size w w':=by
 have HN:=aa (fun W=>rnorm_any d h0 h1 W);have hb:=ft d;obtain⟨n,hnn⟩:∃n:Nat,cz d=n:=⟨(cz d).toNat,by omega⟩;rw[hnn] at hb hn HN ⊢;have HS:=aa (fun W=>rsines_any W);obtain⟨b,hb9⟩:=ag w.heap.size
 by_cases h90:(n:Int)≤90
 ·have hg:=sZ n (by omega)
  have hs:mX (n:Int)=sinT.getD n 0:=by unfold mX;rw[if_pos h90];rfl
  rw[hs];obtain⟨v,hv⟩:=ag (sinT.getD n 0);rw[hv] at hg ⊢
  have h90b:decide (90<(n:Int))=false:=by simp;omega
  have h180b:decide (180<(n:Int))=false:=by simp;omega
  have n1:(n:Int)<91:=by omega
  have HG:=aa hg;clear hg hs hv h90 hnn hb hn hb9;go_enter func335,ntmps335;go_wp2_with fail;refine(HN.out _).mono ?_;rintro e w1 ⟨rfl,rfl⟩;go_wp2_with fail;refine(HS.out _).mono ?_;rintro e w1 ⟨rfl,hk,hb1⟩;have kn9Q:=(hk.out n).trans HG.out;clear hk HG;go_wp2_with fail;go_ret;exact⟨rfl,hb1⟩
 ·obtain⟨m,hm⟩:∃m:Nat,180-(n:Int)=m:=⟨180-n,by omega⟩
  have hg:=sZ m (by omega)
  have hs:mX (n:Int)=sinT.getD m 0:=by unfold mX;rw[if_neg h90];congr 1;omega
  rw[hs];obtain⟨v,hv⟩:=ag (sinT.getD m 0);rw[hv] at hg ⊢
  have h90b:decide (90<(n:Int))=true:=by simp;omega
  have h180b:decide (180<(n:Int))=false:=by simp;omega
  have n1:(m:Int)<91:=by omega
  have HG:=aa hg;clear hg hs hv h90 hnn hn hb9;go_enter func335,ntmps335;go_wp2_with fail;refine(HN.out _).mono ?_;rintro e w1 ⟨rfl,rfl⟩;go_wp2_with fail;refine(HS.out _).mono ?_;rintro e w1 ⟨rfl,hk,hb1⟩;have kn9Q:=(hk.out m).trans HG.out;clear hk HG;go_wp2_with fail;go_ret;exact⟨rfl,hb1⟩
theorem rsin_any (d:Int) (h0:-1000000≤d) (h1:d≤1000000) (w:World):Calls prog 335 #[.int .i64 d] w fun e w'=>e=.returned (.int .i64 (gJ d))∧Below w.heap.size w w':=by
 by_cases hn:cz d≤180
 ·have:=rsinLow_any d h0 h1 hn w
  unfold gJ;rw[if_pos hn];exact this
 ·have HN:=aa (fun W=>rnorm_any d h0 h1 W)
  have hb:=ft d;have hsb:=ng d;unfold gJ at hsb ⊢;rw[if_neg hn] at hsb ⊢
  have hnn:cz (cz d-180)=cz d-180:=by rw[nt (cz d-180)];omega
  have HL:=aa (fun W=>rsinLow_any (cz d-180) (by omega) (by omega) (by omega) W);rw[hnn] at HL;clear hnn;obtain⟨n,hnn⟩:=ag (cz d);rw[hnn] at hb hn HN HL hsb ⊢;obtain⟨v,hv⟩:=ag (mX (n-180));rw[hv] at HL hsb ⊢
  have h180b:decide (180<(n:Int))=true:=by simp;omega
  have HS:=aa (fun W=>rsines_any W);clear hv hnn;go_enter func335,ntmps335;go_wp2_with fail;refine(HN.out _).mono ?_;rintro e w1 ⟨rfl,rfl⟩;go_wp2_with fail;refine(HS.out _).mono ?_;rintro e w1 ⟨rfl,hk,hb1⟩;clear hk;go_wp2_with fail;refine(HL.out _).mono ?_;rintro e w2 ⟨rfl,hb2⟩;go_wp2_with fail;go_ret;exact⟨rfl,bB hb1 hb2⟩
theorem rcos_any (d:Int) (h0:-1000000≤d) (h1:d≤1000000) (w:World):Calls prog 334 #[.int .i64 d] w fun e w'=>e=.returned (.int .i64 (ju d))∧Below w.heap.size w w':=by
 have HN:=aa (fun W=>rnorm_any d h0 h1 W);have hb:=ft d;have HS:=aa (fun W=>rsin_any (cz d+90) (by omega) (by omega) W);unfold ju;obtain⟨n,hnn⟩:=ag (cz d);rw[hnn] at hb HN HS ⊢;clear hnn;go_enter func334,ntmps334;go_wp2_with fail;refine(HN.out _).mono ?_;rintro e w1 ⟨rfl,rfl⟩;go_wp2_with fail;refine(HS.out _).mono ?_;rintro e w1 ⟨rfl,hb1⟩;go_wp2_with fail;go_ret;exact⟨rfl,hb1⟩
theorem rfloor_any (a b:Int) (w:World) (ha:-4000000000000000000≤a∧a≤4000000000000000000) (hb0:0<b) (hb:b≤1000000000):Calls prog 333 #[.int .i64 a,.int .i64 b] w fun e w'=>e=.returned (.int .i64 (cY a b))∧w=w':=by
 rw[←floor_ref hb0];unfold floorR;have t1:-b<a.tmod b∧a.tmod b<b:=⟨by have:=Int.lt_tmod_of_pos a hb0;omega,Int.tmod_lt_of_pos a hb0⟩
 have t2:-4000000000000000000≤a.tdiv b∧a.tdiv b≤4000000000000000000:=by
  have e1:=Int.natAbs_tdiv_le_natAbs a b;omega
 have t3:-4000000001000000000≤a.tdiv b*b∧a.tdiv b*b≤4000000001000000000:=by
  have:=Int.mul_tdiv_add_tmod a b;rw[Int.mul_comm] at this;omega
 have hbz:(b==0)=false:=by simp;omega
 have hbz2:b≠0:=by omega
 obtain⟨q,hq⟩:=ag (a.tdiv b);obtain⟨p,hp⟩:=ag (q*b);rw[hq,hp] at t3;rw[hq,hp];rw[hq] at t2;clear t1
 by_cases hc:a<p
 all_goals
  first|rw[if_pos hc]|rw[if_neg hc]
  go_enter func333,ntmps333;go_wp2_with fail;go_ret;exact⟨rfl,rfl⟩
theorem within3_any (n a b:Int) (w:World):Calls prog 165 #[.int .i64 n,.int .i64 a,.int .i64 b] w fun e w'=>e=.returned (.bool (bm n a b))∧w=w':=by
 unfold bm;go_enter func165,ntmps165;go_wp2
 all_goals go_ret
 all_goals refine⟨?_,rfl⟩
 all_goals simp[*]
 all_goals omega
theorem common3_any (p q:Par) (w:World) (hp:p.small) (hq:q.small):Calls prog 235 #[p.val,q.val] w fun e w'=>e=.returned (.int .i64 (max 0 (min p.est q.est-max p.wst q.wst+1)))∧Below w.heap.size w w':=by
 obtain⟨pn9Q,ps,pw9Q,pe⟩:=p;obtain⟨qn,qs9Q,qw9Q,qe⟩:=q;unfold Par.small at hp hq;unfold Par.val
 dsimp only at *
 obtain⟨m,hm⟩:=ag (min pe qe);obtain⟨M,hM⟩:=ag (max pw9Q qw9Q)
 have b1:-1000000≤m∧m≤1000000:=by omega
 have b2:-1000000≤M∧M≤1000000:=by omega
 have w1:IntKind.i64.wrap (m-M)=m-M:=IntWalk.i64_in _ (by omega);have w2:IntKind.i64.wrap (m-M+1)=m-M+1:=IntWalk.i64_in _ (by omega);rw[hm,hM];clear hp hq;go_enter func235,ntmps235;go_wp2_with fail;go_ret;exact⟨rfl,by go_grown⟩
theorem refName_any (s:ByteArray) (w:World) (hs:s.size≤9223372036854775807) :
 Calls prog 163 #[.string s] w fun e w'=>e=.returned (.bool (bI s))∧w=w':=by
 obtain⟨P,hP⟩:=ag (bI s);rw[hP]
 by_cases h1:s.size<1
 ·obtain rfl:false=P:=by rw[←hP];unfold bI;simp;omega
  have d1:decide ((s.size:Int)<1)=true:=by simp;omega
  clear h1 hP;go_enter func163,ntmps163;go_wp2_with fail;go_ret;exact⟨rfl,rfl⟩
 have d1:decide ((s.size:Int)<1)=false:=by simp;omega
 by_cases h2:24<s.size
 ·obtain rfl:false=P:=by rw[←hP];unfold bI;simp;omega
  have d2:decide ((s.size:Int)>24)=true:=by simp;omega
  have d2':decide (24<s.size)=true:=by simp;omega
  clear h1 h2 hP;go_enter func163,ntmps163;go_wp2_with fail;go_ret;exact⟨rfl,rfl⟩
 have d2:decide ((s.size:Int)>24)=false:=by simp;omega
 have d2':decide (24<s.size)=false:=by simp;omega
 have h0:=zK s 0 (by omega)
 have hpos:0<s.size:=by omega
 have HP:Hid ((iU s[0]&&s.data.toList.all dG)=P):=aa (by rw[←hP];unfold bI;rw[h0];simp[show 1≤s.size by omega,show s.size≤24 by omega]);clear hP h0
 by_cases hlow:iU s[0]=true
 rotate_left
 ·obtain rfl:false=P:=by rw[←HP.out];simp[hlow]
  have hb:¬(97≤s[0].toNat∧s[0].toNat≤122):=by rw[←pG];exact hlow
  clear hlow HP
  by_cases g:s[0].toNat<97
  ·have d3:decide ((s[0].toNat:Int)<97)=true:=by simp;omega
   clear hb;go_enter func163,ntmps163;go_wp2_with fail;go_ret;exact⟨rfl,rfl⟩
  ·have d3:decide ((s[0].toNat:Int)<97)=false:=by simp;omega
   have d4:decide ((s[0].toNat:Int)>122)=true:=by simp;omega
   clear hb;go_enter func163,ntmps163;go_wp2_with fail;go_ret;exact⟨rfl,rfl⟩
 have hb:97≤s[0].toNat∧s[0].toNat≤122:=(pG _).1 hlow
 have d3:decide ((s[0].toNat:Int)<97)=false:=by simp;omega
 have d4:decide ((s[0].toNat:Int)>122)=false:=by simp;omega
 have HL:=aa hlow;clear hlow hb;go_enter func163,ntmps163;go_wp2_with fail
 go_loop [3] (fun i=>∃k:Nat,k≤s.size∧i=.int .i64 k∧Hid ((s.data.toList.take k).all dG=true)) (fun i=>s.size-(intOf i).toNat)
 case atStart=>exact⟨0,Nat.zero_le _,rfl,aa rfl⟩
 case round =>
  obtain⟨k,hk,rfl,HA⟩:=hrel;clear d3 d4
  by_cases hlt:k<s.size
  ·have HS:=aa (ua s k hlt)
   have hni:=dM s[k];have HNO:Hid (dG s[k]=false→P=false):=aa (fun hn=>by rw[←HP.out,kL (l:=s.data.toList) (k:=k) (by simpa using hlt) rfl hn,Bool.and_false]);have HYES:Hid (dG s[k]=true→(s.data.toList.take (k+1)).all dG=true):=aa (fun hn=>by rw[HS.out,List.all_append,HA.out];simp[hn])
   by_cases g1:s[k].toNat<97
   ·have f1:decide ((s[k].toNat:Int)<97)=true:=by simp;omega
    by_cases g2:s[k].toNat<48
    ·have f2:decide ((s[k].toNat:Int)<48)=true:=by simp;omega
     by_cases g3:s[k].toNat=45
     ·have fe9Q:((s[k].toNat:Int) != 45)=false:=by simp;omega
      have HN2:=aa (HYES.out (hni.2 (by omega)));have HK:=aa hlt;clear hni HYES HNO g1 g2 g3;go_wp2_with fail;go_round
      case rel=>exact⟨k+1,HK.out,by go_num,HN2⟩
      case measure=>have:=HK.out;simp[intOf];omega
     ·have fe9Q:((s[k].toNat:Int) != 45)=true:=by simp;omega
      obtain rfl:=HNO.out (by rw[←Bool.not_eq_true,hni];omega);clear hni HYES HNO g1 g2 g3;go_wp2_with fail;go_ret;exact⟨rfl,rfl⟩
    ·have f2:decide ((s[k].toNat:Int)<48)=false:=by simp;omega
     by_cases g3:s[k].toNat≤57
     ·have f3:decide ((s[k].toNat:Int)>57)=false:=by simp;omega
      have HN2:=aa (HYES.out (hni.2 (by omega)));have HK:=aa hlt;clear hni HYES HNO g1 g2 g3;go_wp2_with fail;go_round
      case rel=>exact⟨k+1,HK.out,by go_num,HN2⟩
      case measure=>have:=HK.out;simp[intOf];omega
     ·have f3:decide ((s[k].toNat:Int)>57)=true:=by simp;omega
      have fe9Q:((s[k].toNat:Int) != 45)=true:=by simp;omega
      obtain rfl:=HNO.out (by rw[←Bool.not_eq_true,hni];omega);clear hni HYES HNO g1 g2 g3;go_wp2_with fail;go_ret;exact⟨rfl,rfl⟩
   ·have f1:decide ((s[k].toNat:Int)<97)=false:=by simp;omega
    by_cases g2:s[k].toNat≤122
    ·have f2:decide ((s[k].toNat:Int)>122)=false:=by simp;omega
     have HN2:=aa (HYES.out (hni.2 (by omega)));have HK:=aa hlt;clear hni HYES HNO g1 g2;go_wp2_with fail;go_round
     case rel=>exact⟨k+1,HK.out,by go_num,HN2⟩
     case measure=>have:=HK.out;simp[intOf];omega
    ·have f2:decide ((s[k].toNat:Int)>122)=true:=by simp;omega
     have f3:decide ((s[k].toNat:Int)<48)=false:=by simp;omega
     have f4:decide ((s[k].toNat:Int)>57)=true:=by simp;omega
     have fe9Q:((s[k].toNat:Int) != 45)=true:=by simp;omega
     obtain rfl:=HNO.out (by rw[←Bool.not_eq_true,hni];omega);clear hni HYES HNO g1 g2;go_wp2_with fail;go_ret;exact⟨rfl,rfl⟩
  ·have hall:s.data.toList.all dG=true:=by have:=HA.out;rwa [List.take_of_length_le (by simp;omega)] at this
   obtain rfl:true=P:=by rw[←HP.out,hall,HL.out];rfl
   clear hall;go_wp2_with fail;go_ret;exact⟨rfl,rfl⟩
theorem bytes_ne {y x:ByteArray} (e:¬y=x):(y.toList==x.toList)=false:=by
 have h:y.toList≠x.toList:=fun h=>e (by
  rw[ByteArray.toList_eq,ByteArray.toList_eq] at h
  cases y;cases x
  simp only at h
  congr 1
  exact Array.toList_inj.1 h)
 simpa using h
def FirstAt (l:List ByteArray) (x:ByteArray) (q:Nat):Prop:=(∃h:q<l.length,l[q]=x)∧∀j (h:j<l.length),j<q→l[j]≠x
theorem firstAt_lt {l:List ByteArray} {q i:Nat} (hi:i<l.length) (h:FirstAt l l[i] q):(decide ((q:Int)<(i:Int)))=(l.take i).any (fun y=>decide (y=l[i])):=by
 obtain⟨⟨hq,e⟩,hn⟩:=h
 by_cases c:q<i
 ·rw[show decide ((q:Int)<(i:Int))=true by simp;omega]
  symm
  rw[List.any_eq_true];refine⟨l[q],?_,by simpa using e⟩;rw[List.mem_take_iff_getElem];exact⟨q,by omega,rfl⟩
 ·rw[show decide ((q:Int)<(i:Int))=false by simp;omega]
  symm
  rw[List.any_eq_false];intro y hy;rw[List.mem_take_iff_getElem] at hy;obtain⟨j,hj,rfl⟩:=hy;have:=hn j (by omega) (by omega);simpa using this
theorem refplace_any (w:World) (a:Option Addr) (cap:Nat) (l:List ByteArray) (i:Nat) (hi:i<l.length) (hl:l.length≤4000) (h:StrsAt w a l) :
 Calls prog 164 #[.slice a l.length cap,.string l[i]] w fun e w'=>(∃q:Nat,e=.returned (.int .i64 q)∧FirstAt l l[i] q)∧w=w':=by
 have H:=aa h;obtain⟨x,hx⟩:=ag (l[i]);rw[hx];have HX:=aa hx;have HI:=aa hi;clear h hx;go_enter func164,ntmps164;go_wp2_with fail
 go_loop [5] (fun i=>∃k:Nat,k≤l.length∧i=.int .i64 k∧Hid (∀j (h:j<l.length),j<k→l[j]≠x)) (fun i=>l.length-(intOf i).toNat)
 case atStart=>exact⟨0,Nat.zero_le _,rfl,aa (fun j _ h=>by omega)⟩
 case round =>
  obtain⟨k,hk,rfl,HN⟩:=hrel
  by_cases hlt:k<l.length
  ·obtain⟨b,off,rfl,hbl,hc⟩:=StrsAt.cell H.out hlt
   have HK:=aa hlt;have hc':w.cell? ⟨b,off+k,none⟩=some (.string l[k]):=hc;clear hc
   by_cases e:l[k]=x
   ·have hF:=aa (show FirstAt l x k from⟨⟨hlt,e⟩,HN.out⟩)
    rw[e] at hc';clear e;go_wp2_with fail;go_ret;exact⟨⟨k,rfl,hF.out⟩,rfl⟩
   ·have HN2:Hid (∀j (h:j<l.length),j<k+1→l[j]≠x):=aa (fun j hj hjk=>by
     by_cases c:j=k
     ·subst c;exact e
     ·exact HN.out j hj (by omega))
    obtain⟨y,hy⟩:=ag (l[k]);rw[hy] at hc' e;have d1:=bytes_ne e;clear hy e;go_wp2_with fail;go_round
    case rel=>exact⟨k+1,HK.out,by go_num,HN2⟩
    case measure=>have:=HK.out;simp[intOf];omega
  ·exact absurd HX.out (HN.out i HI.out (by have:=HI.out;omega))
theorem refVrns_any (w:World) (a:Option Addr) (cap:Nat) (l:List Vrn) (hl:l.length≤9223372036854775807) (h:VrnsAt w a l) :
 Calls prog 161 #[.slice a l.length cap] w fun e w'=>e=.returned (.int .i64 (bz l))∧Below w.heap.size w w':=by
 obtain⟨P,hP⟩:=ag (bz l);rw[hP];unfold bz at hP
 by_cases h40:40<l.length
 ·obtain rfl:(2:Int)=P:=by rw[if_pos h40] at hP;exact hP
  have hd:decide ((l.length:Int)>40)=true:=by simp;omega
  have hd':decide (40<l.length)=true:=by simp;omega
  clear hP h h40;go_enter func161,ntmps161;go_wp2_with fail;go_ret;exact⟨rfl,Below.refl _ _⟩
 rw[if_neg h40] at hP
 have hd:decide ((l.length:Int)>40)=false:=by simp;omega
 have hd':decide (40<l.length)=false:=by simp;omega
 have hl40:l.length≤40:=by omega
 have HP:=aa hP;have H:=aa h;clear hP h h40;go_enter func161,ntmps161;go_wp2_with fail
 go_loopw [3] (fun i wr=>∃(k:Nat),k≤l.length∧i=.int .i64 k∧Hid (kS 0 l=kS (yearTo l k) (l.drop k))∧Hid (0≤yearTo l k∧(0<k→1≤yearTo l k)∧yearTo l k≤3000)∧Hid (Below w.heap.size w wr)) (fun i _=>l.length-(intOf i).toNat)
 case atStart=>exact⟨0,Nat.zero_le _,rfl,aa rfl,aa ⟨Int.le_refl _,fun h=>by omega,(by decide:(0:Int)≤3000)⟩,aa (Below.refl _ _)⟩
 case round =>
  obtain⟨k,hk,rfl,HV,HY,HB⟩:=hrel;obtain⟨wx,rfl⟩:∃x:World,x=wr:=⟨wr,rfl⟩
  by_cases hlt:k<l.length
  ·obtain⟨b,off,rfl,hbl,hc⟩:=RecsAt.at H.out hlt
   have c0:=hc 0 (by omega);have c1:=hc 1 (by omega);rw[←HB.out.cell hbl,Nat.add_zero] at c0;rw[←HB.out.cell hbl] at c1;have HS:=aa (uH hlt (yearTo l k))
   have hyn:yearTo l (k+1)=l[k].year:=by unfold yearTo;rw[if_neg (by omega),Nat.add_sub_cancel,List.getD_eq_getElem?_getD,List.getElem?_eq_getElem hlt];rfl
   have hpv:∀j,k=j+1→wx.cell? ⟨b,off+j*2,none⟩=some (.int .i64 (yearTo l k)):=fun j e=>by
    subst e;obtain⟨b',off',eq,_,hc'⟩:=RecsAt.at H.out (show j<l.length by omega);cases eq;have q:=hc' 0 (by omega);rw[←HB.out.cell hbl,Nat.add_zero] at q;rw[q];unfold yearTo;rw[if_neg (by omega),Nat.add_sub_cancel,List.getD_eq_getElem?_getD,List.getElem?_eq_getElem (show j<l.length by omega)]
    rfl
   have HPV:=aa hpv;have HY0:Hid (k=0→yearTo l k=0):=aa (fun e=>by subst e;rfl);obtain⟨y0,hy0⟩:=ag (yearTo l k);rw[hy0] at HY0;rw[hy0] at HS HPV HV HY;obtain⟨x,hx⟩:=ag (l[k]);rw[hx] at c0 c1 HS hyn;obtain⟨xy,xe⟩:=x;simp only[Vrn.cells,List.getElem?_cons_zero,List.getElem?_cons_succ] at c0 c1;simp only at HS hyn;have HYN:=aa hyn;have HLT:=aa hlt;have lb:b<wx.heap.size:=Nat.lt_of_lt_of_le hbl HB.out.size;clear hx hc hpv hy0 hyn;have hyb:=HY.out;go_upto_region 7 with fail;obtain⟨X,hX⟩:∃X,X=wx.alloc (.cells #[.int .i64 xy,.int .i64 xe] 253):=⟨_,rfl⟩;rw[←hX]
   have xb:X.heap[wx.heap.size]?=some (.cells #[.int .i64 xy,.int .i64 xe] 253 (0,0)):=by rw[hX];exact heap_alloc_new _ _
   have BX:=aa (show Below wx.heap.size wx X by rw[hX];exact aD);have z0:X.cell? ⟨wx.heap.size,0,none⟩=some (.int .i64 xy):=bu xb rfl;have z1:X.cell? ⟨wx.heap.size,1,none⟩=some (.int .i64 xe):=bu xb rfl;have BW:=bU HB BX.out;clear hX xb c0 c1
   by_cases q1:xy<1
   ·have d1:decide (xy<1)=true:=by simpa using q1
    obtain rfl:(1:Int)=P:=by
     rw[←HP.out,HV.out,HS.out,if_neg];unfold bm;simp only[Bool.and_eq_true,decide_eq_true_eq];omega
    clear q1 hyb
    go_quiet (fail)
    go_wp2_with fail;go_ret;exact⟨rfl,BW.out.trans (aA _ _)⟩
   have d1:decide (xy<1)=false:=by simpa using q1
   by_cases q2:3000<xy
   ·have d2:decide (xy>3000)=true:=by simpa using q2
    have d2':decide (3000<xy)=true:=by simpa using q2
    obtain rfl:(1:Int)=P:=by
     rw[←HP.out,HV.out,HS.out,if_neg];unfold bm;simp only[Bool.and_eq_true,decide_eq_true_eq];omega
    clear q1 q2 hyb
    go_quiet (fail)
    go_wp2_with fail;go_ret;exact⟨rfl,BW.out.trans (aA _ _)⟩
   have d2:decide (xy>3000)=false:=by simpa using q2
   have d2':decide (3000<xy)=false:=by simpa using q2
   by_cases q3:xe < -60
   ·have d3:decide (xe < -60)=true:=by simpa using q3
    obtain rfl:(1:Int)=P:=by
     rw[←HP.out,HV.out,HS.out,if_neg];unfold bm;simp only[Bool.and_eq_true,decide_eq_true_eq];omega
    clear q1 q2 q3 hyb
    go_quiet (fail)
    go_wp2_with fail;go_ret;exact⟨rfl,BW.out.trans (aA _ _)⟩
   have d3:decide (xe < -60)=false:=by simpa using q3
   by_cases q4:60<xe
   ·have d4:decide (xe>60)=true:=by simpa using q4
    have d4':decide (60<xe)=true:=by simpa using q4
    obtain rfl:(1:Int)=P:=by
     rw[←HP.out,HV.out,HS.out,if_neg];unfold bm;simp only[Bool.and_eq_true,decide_eq_true_eq];omega
    clear q1 q2 q3 q4 hyb
    go_quiet (fail)
    go_wp2_with fail;go_ret;exact⟨rfl,BW.out.trans (aA _ _)⟩
   have d4:decide (xe>60)=false:=by simpa using q4
   have d4':decide (60<xe)=false:=by simpa using q4
   rcases Nat.eq_zero_or_pos k with hk0|hk0
   ·subst hk0
    have d5:decide (((0:Nat):Int)>0)=false:=by decide
    have d5':decide (0<(0:Nat))=false:=by decide
    have hy00:y0=0:=HY0.out rfl
    have HV2:Hid (kS 0 l=kS (yearTo l (0+1)) (l.drop (0+1))):=aa (by
     rw[HV.out,HS.out,HYN.out]
     have e1:bm xy (y0+1) 3000=true:=by unfold bm;simp;omega
     have e2:bm xe (-60) 60=true:=by unfold bm;simp;omega
     rw[e1,e2];rfl)
    have HY2:Hid (0≤yearTo l (0+1)∧(0<0+1→1≤yearTo l (0+1))∧yearTo l (0+1)≤3000):=aa (by rw[HYN.out];omega);clear hy00 q1 q2 q3 q4 hyb
    go_quiet (fail)
    go_wp2_with fail;go_roundw
    case rel=>exact⟨0+1,HLT.out,by go_num,HV2,HY2,aa (BW.out.trans (aA _ _))⟩
    case measure=>have:=HLT.out;simp[intOf];omega
   ·obtain⟨j,rfl⟩:∃j,k=j+1:=⟨k-1,by omega⟩
    have d5:decide (((j+1:Nat):Int)>0)=true:=decide_eq_true (by omega);have d5':decide (0<j+1)=true:=decide_eq_true (by omega);have cp:X.cell? ⟨b,off+j*2,none⟩=some (.int .i64 y0):=(BX.out.cell (p:=⟨b,off+j*2,none⟩) lb).trans (HPV.out j rfl)
    have hkj:((j+1:Nat):Int)-1=(j:Int):=by omega
    have hwj:IntKind.i64.wrap (j:Int)=(j:Int):=IntWalk.i64_in _ (by omega)
    have hjl:j<l.length:=by omega
    by_cases q5:xy≤y0
    ·have d6:decide (xy≤y0)=true:=by simpa using q5
     obtain rfl:(1:Int)=P:=by
      rw[←HP.out,HV.out,HS.out,if_neg];unfold bm;simp only[Bool.and_eq_true,decide_eq_true_eq];omega
     clear q1 q2 q3 q4 q5 hyb
     go_quiet (fail)
     go_wp2_with fail;go_ret;exact⟨rfl,BW.out.trans (aA _ _)⟩
    ·have d6:decide (xy≤y0)=false:=by simpa using q5
     have HV2:Hid (kS 0 l=kS (yearTo l ((j+1)+1)) (l.drop ((j+1)+1))):=aa (by
      rw[HV.out,HS.out,HYN.out]
      have e1:bm xy (y0+1) 3000=true:=by unfold bm;simp;omega
      have e2:bm xe (-60) 60=true:=by unfold bm;simp;omega
      rw[e1,e2];rfl)
     have HY2:Hid (0≤yearTo l ((j+1)+1)∧(0<(j+1)+1→1≤yearTo l ((j+1)+1))∧yearTo l ((j+1)+1)≤3000):=aa (by rw[HYN.out];omega);clear q1 q2 q3 q4 q5 hyb
     go_quiet (fail)
     go_wp2_with fail;go_roundw
     case rel=>exact⟨(j+1)+1,HLT.out,by go_num,HV2,HY2,aa (BW.out.trans (aA _ _))⟩
     case measure=>have:=HLT.out;simp[intOf];omega
  ·obtain rfl:k=l.length:=by omega
   obtain rfl:(0:Int)=P:=by rw[←HP.out,HV.out,List.drop_length];rfl
   go_wp2_with fail;go_ret;exact⟨rfl,HB.out⟩
theorem pow_le31 {b:Nat} (h:b≤31):(1:Int)≤2^b∧(2:Int)^b≤2147483648:=by
 have:∀i:Fin 32,(1:Int)≤2^i.val∧(2:Int)^i.val≤2147483648:=by decide +kernel
 exact this ⟨b,by omega⟩
theorem rchain_any (a b:Int) (w:World):Calls prog 309 #[.agg #[.int .i64 a,.int .i64 b]] w fun e w'=>e=.returned (.int .i64 (if(bm a (-500) 500&&bm b 0 200)=true then 0 else 1))∧Below w.heap.size w w':=by
 unfold bm
 by_cases h1:a < -500
 ·rw[if_neg (by simp;omega)]
  go_enter func309,ntmps309;go_wp2_with fail;go_ret;exact⟨rfl,by go_grown⟩
 by_cases h2:500<a
 ·rw[if_neg (by simp;omega)]
  go_enter func309,ntmps309;go_wp2_with fail;go_ret;exact⟨rfl,by go_grown⟩
 by_cases h3:b<0
 ·rw[if_neg (by simp;omega)]
  go_enter func309,ntmps309;go_wp2_with fail;go_ret;exact⟨rfl,by go_grown⟩
 by_cases h4:200<b
 ·rw[if_neg (by simp;omega)]
  go_enter func309,ntmps309;go_wp2_with fail;go_ret;exact⟨rfl,by go_grown⟩
 ·rw[if_pos (by simp;omega)]
  go_enter func309,ntmps309;go_wp2_with fail;go_ret;exact⟨rfl,by go_grown⟩
theorem rcourse_any (c:Crs) (w:World):Calls prog 278 #[c.val] w fun e w'=>e=.returned (.int .i64 (if c.ok=true then 0 else 1))∧Below w.heap.size w w':=by
 have HC:=aa (fun W=>rchain_any c.wear c.slack W);have hok2:=aa (Crs.ok_iff (c:=c));obtain⟨c1,c2,c3,c4,c5,c6⟩:=c;unfold Crs.val Crs.vals
 dsimp only at *
 have bad:¬((0≤c1∧c1≤359)∧(0≤c2∧c2≤30)∧(1≤c3∧c3≤100000)∧(1≤c4∧c4≤3000))→(if(Crs.mk c1 c2 c3 c4 c5 c6).ok=true then(0:Int) else 1)=1:=fun q=>if_neg fun y=>(have z:=hok2.out.1 y;q ⟨z.1,z.2.1,z.2.2.1,z.2.2.2.1⟩)
 have HB:=aa bad;clear bad
 by_cases h1:c1<0
 ·rw[HB.out (by omega)];clear hok2 HC HB
  go_enter func278,ntmps278;go_wp2_with fail;go_ret;exact⟨rfl,by go_grown⟩
 by_cases h2:359<c1
 ·rw[HB.out (by omega)];clear hok2 HC HB
  go_enter func278,ntmps278;go_wp2_with fail;go_ret;exact⟨rfl,by go_grown⟩
 by_cases h3:c2<0
 ·rw[HB.out (by omega)];clear hok2 HC HB
  go_enter func278,ntmps278;go_wp2_with fail;go_ret;exact⟨rfl,by go_grown⟩
 by_cases h4:30<c2
 ·rw[HB.out (by omega)];clear hok2 HC HB
  go_enter func278,ntmps278;go_wp2_with fail;go_ret;exact⟨rfl,by go_grown⟩
 by_cases h5:c3<1
 ·rw[HB.out (by omega)];clear hok2 HC HB
  go_enter func278,ntmps278;go_wp2_with fail;go_ret;exact⟨rfl,by go_grown⟩
 by_cases h6:100000<c3
 ·rw[HB.out (by omega)];clear hok2 HC HB
  go_enter func278,ntmps278;go_wp2_with fail;go_ret;exact⟨rfl,by go_grown⟩
 by_cases h7:c4<1
 ·rw[HB.out (by omega)];clear hok2 HC HB
  go_enter func278,ntmps278;go_wp2_with fail;go_ret;exact⟨rfl,by go_grown⟩
 by_cases h8:3000<c4
 ·rw[HB.out (by omega)];clear hok2 HC HB
  go_enter func278,ntmps278;go_wp2_with fail;go_ret;exact⟨rfl,by go_grown⟩
 have e:(if(Crs.mk c1 c2 c3 c4 c5 c6).ok=true then(0:Int) else 1)=if(bm c5 (-500) 500&&bm c6 0 200)=true then 0 else 1:=by
  by_cases q:(Crs.mk c1 c2 c3 c4 c5 c6).ok=true
  ·have:=hok2.out.1 q
   rw[if_pos q,if_pos (by unfold bm;simp;omega)]
  ·rw[if_neg q]
   have:¬(bm c5 (-500) 500&&bm c6 0 200)=true:=fun z=>q (hok2.out.2 (by unfold bm at z;simp at z;omega))
   rw[if_neg this]
 rw[e];obtain⟨r,hr⟩:∃r:Int,(if(bm c5 (-500) 500&&bm c6 0 200)=true then 0 else 1)=r:=⟨_,rfl⟩;rw[hr] at HC ⊢;clear hr e HB hok2;go_enter func278,ntmps278;go_wp2_with fail;refine(HC.out _).mono ?_;rintro e w1 ⟨rfl,hb1⟩;have hb2:=(aD).trans (hb1.mono (by simp));go_wp2_with fail;go_ret;exact⟨rfl,hb2⟩
theorem rdecl_any (w:World) (a:Option Addr) (cap:Nat) (l:List Vrn) (year:Int) (hl:l.length≤9223372036854775807) (h:VrnsAt w a l) :
 Calls prog 311 #[.slice a l.length cap,.int .i64 year] w fun e w'=>e=.returned (vW (eN l year))∧Below w.heap.size w w':=by
 obtain⟨R,hR⟩:=ag (eN l year);rw[hR];rw[←decl_ref] at hR;have HC:=aa (refVrns_any w a cap l hl h);obtain⟨z,hz⟩:=ag (bz l);rw[hz] at HC hR
 by_cases h0:z=0
 ·subst h0
  rw[if_neg (by omega)] at hR;have HV:=aa hR;have H:=aa h;clear hR hz h;go_enter func311,ntmps311;go_wp2_with (go_at_call 161;refine HC.out.mono ?_;rintro e w1 ⟨rfl,hb1⟩)
  go_loopw [6] (fun j wr=>∃(k:Nat),k≤l.length∧j=.int .i64 ((k:Int)-1)∧Hid (declBack year l k=R)∧Below w.heap.size w wr) (fun j _=>(intOf j+1).toNat)
  case atStart=>exact⟨l.length,Nat.le_refl _,rfl,HV,hb1⟩
  case round =>
   obtain⟨k,hk,rfl,HG,hb⟩:=hrel
   cases k with
   | zero =>
     obtain rfl:none=R:=HG.out;go_wp2_with fail;go_ret2;exact⟨rfl,hb⟩
   | succ k =>
     have e1:(((k+1:Nat):Int)-1)=(k:Int):=by omega
     rw[e1];have hlt:k<l.length:=hk;obtain⟨b,off,rfl,hbl,hc⟩:=RecsAt.at H.out hlt;have c0:=hc 0 (by omega);have c1:=hc 1 (by omega);rw[←hb.cell hbl,Nat.add_zero] at c0;rw[←hb.cell hbl] at c1;have HS:=HG.out;unfold declBack at HS;rw[List.getD_eq_getElem?_getD,List.getElem?_eq_getElem hlt,Option.getD_some] at HS;obtain⟨x,hx⟩:=ag (l[k]);rw[hx] at c0 c1 HS;obtain⟨xy,xe⟩:=x;simp only[Vrn.cells,List.getElem?_cons_zero,List.getElem?_cons_succ] at c0 c1;simp only at HS;clear hx hc HG e1;have B:=aa hb;clear hb
     by_cases hq:xy≤year
     ·rw[if_pos hq] at HS
      subst HS;go_wp2_with fail;go_ret2;exact⟨rfl,B.out⟩
     ·rw[if_neg hq] at HS
      have HS2:=aa HS;clear HS;go_wp2_with fail;go_roundw
      case rel=>exact⟨k,by omega,rfl,HS2,B.out⟩
      case measure=>simp[intOf]
 ·have hzb:(z != 0)=true:=by simpa using h0
  rw[if_pos h0] at hR;subst hR;clear hz h0 h;go_enter func311,ntmps311;go_wp2_with (go_at_call 161;refine HC.out.mono ?_;rintro e w1 ⟨rfl,hb1⟩);go_ret2;exact⟨rfl,hb1⟩
theorem rroot_any (n:Int) (hn:n≤9223372030926249000) (_h0:-9000000000000000000≤n) (w:World):Calls prog 336 #[.int .i64 n] w fun e w'=>e=.returned (.int .i64 (fC n))∧w=w':=by
 rw[←root_ref hn]
 by_cases h1:n<1
 ·rw[if_pos h1]
  go_enter func336,ntmps336;go_wp2_with fail;go_ret;exact⟨rfl,rfl⟩
 rw[if_neg h1];obtain⟨R,hR⟩:=ag (rootBit n 32 0);rw[hR];have HR:=aa hR;clear hR;go_enter func336,ntmps336;go_wp2_with fail
 go_loopw [3,4] (fun x y wr=>∃(b:Nat) (r:Int),b≤32∧x=.int .i64 r∧y=.int .i64 ((b:Int)-1)∧0≤r∧r≤3037000499∧Hid (rootBit n b r=R)∧w=wr) (fun x y _=>(intOf y+1).toNat)
 case atStart=>exact⟨32,0,by omega,rfl,rfl,by omega,by omega,HR,rfl⟩
 case round =>
  obtain⟨b,r,hb,rfl,rfl,r0,r1,HG,rfl⟩:=hrel
  cases b with
  | zero =>
    obtain rfl:r=R:=HG.out;go_wp2_with fail;go_ret;exact⟨rfl,rfl⟩
  | succ b =>
    have e1:(((b+1:Nat):Int)-1)=(b:Int):=by omega
    rw[e1];have hp:=pow_le31 (b:=b) (by omega);have HS:=HG.out;unfold rootBit at HS
    have ht:((b:Int)).toNat=b:=by omega
    obtain⟨p,hpp⟩:∃p:Int,(2:Int)^b=p:=⟨_,rfl⟩;rw[hpp] at hp HS
    have hsh:IntKind.i64.wrap (1*(2:Int)^b)=p:=by rw[hpp,Int.one_mul];exact IntWalk.i64_in _ (by omega)
    have hsh2:IntKind.i64.wrap ((2:Int)^b)=p:=by rw[hpp];exact IntWalk.i64_in _ (by omega)
    clear HG e1 hpp
    by_cases q1:r+p≤3037000499
    ·obtain⟨m,hm⟩:=ag ((r+p)*(r+p))
     have m1:0≤m∧m≤9223372030926249001:=by
      rw[←hm];exact⟨Int.mul_nonneg (by omega) (by omega),Int.mul_le_mul (a:=r+p) (c:=3037000499) (b:=r+p) (d:=3037000499) (by omega) (by omega) (by omega) (by omega)⟩
     rw[hm] at HS
     by_cases q2:m≤n
     ·rw[if_pos ⟨q1,q2⟩] at HS
      have HS2:=aa HS;clear HS;go_wp2_with fail;go_roundw
      case rel=>exact⟨b,r+p,by omega,rfl,rfl,by omega,by omega,HS2,trivial⟩
      case measure=>simp[intOf]
     ·rw[if_neg (fun z=>q2 z.2)] at HS
      have HS2:=aa HS;clear HS;go_wp2_with fail;go_roundw
      case rel=>exact⟨b,r,by omega,rfl,rfl,by omega,by omega,HS2,trivial⟩
      case measure=>simp[intOf]
    ·rw[if_neg (fun z=>q1 z.1)] at HS
     have HS2:=aa HS;clear HS;go_wp2_with fail;go_roundw
     case rel=>exact⟨b,r,by omega,rfl,rfl,by omega,by omega,HS2,trivial⟩
     case measure=>simp[intOf]
theorem rrootUp_any (n:Int) (hn:n≤9223372030926249000) (h0:-9000000000000000000≤n) (w:World):Calls prog 337 #[.int .i64 n] w fun e w'=>e=.returned (.int .i64 (fG n))∧w=w':=by
 have HR:=sr hn;have H:=aa (fun W=>rroot_any n hn h0 W);rw[←rootUp_ref hn];obtain⟨r,hr⟩:=ag (fC n);rw[hr] at HR H ⊢;obtain⟨p,hp⟩:=ag (r*r)
 have p1:0≤p∧p≤9223372030926249001:=by
  rw[←hp];exact⟨Int.mul_nonneg (by omega) (by omega),Int.mul_le_mul (a:=r) (c:=3037000499) (b:=r) (d:=3037000499) (by omega) (by omega) (by omega) (by omega)⟩
 rw[hp];clear hr
 by_cases hq0:0<n
 ·by_cases hq:p<n
  ·rw[if_pos ⟨hq0,hq⟩]
   go_enter func337,ntmps337;go_wp2_with (go_at_call 336;refine(H.out _).mono ?_;rintro e w1 ⟨rfl,rfl⟩);go_ret;exact⟨rfl,rfl⟩
  ·rw[if_neg (fun z=>hq z.2)]
   go_enter func337,ntmps337;go_wp2_with (go_at_call 336;refine(H.out _).mono ?_;rintro e w1 ⟨rfl,rfl⟩);go_ret;exact⟨rfl,rfl⟩
 ·rw[if_neg (fun z=>hq0 z.1)]
  go_enter func337,ntmps337;go_wp2_with (go_at_call 336;refine(H.out _).mono ?_;rintro e w1 ⟨rfl,rfl⟩);go_ret;exact⟨rfl,rfl⟩
theorem rsector_any (c:Crs) (e:Int) (hc:c.ok=true) (he:-60≤e∧e≤60) (w:World) :
 Calls prog 332 #[c.val,.int .i64 e] w fun r w'=>r=.returned (.tuple #[.int .i64 (eH c e-c.needle),.int .i64 (eH c e+c.needle)])∧Below w.heap.size w w':=by
 have hcb:=Crs.ok_iff.1 hc;have HN:=aa (fun W=>rnorm_any (c.bearing+e) (by omega) (by omega) W);have hnb:=ft (c.bearing+e);rw[←mid_ref];unfold midR;rw[normR_eq];obtain⟨v,hv⟩:=ag (cz (c.bearing+e));rw[hv] at HN hnb ⊢;obtain⟨w0,hw0⟩:∃W,W=w.alloc (.cells c.vals 46):=⟨_,rfl⟩;have hb0:=aa (show Below w.heap.size w w0 by rw[hw0];exact aD);have hx0:=aa (show Kb [(w.heap.size,.cells c.vals 46)] w0 by rw[hw0];exact Kb.alloc trivial);obtain⟨c1,c2,c3,c4,c5,c6⟩:=c
 unfold Crs.val Crs.vals at *
 dsimp only at *
 have k0:=ce (i:=0) hx0.out.1 rfl;have k1:=ce (i:=1) hx0.out.1 rfl;clear hc hv
 by_cases hq:269<v
 all_goals
  first|rw[if_pos hq]|rw[if_neg hq]
  go_enter func332,ntmps332;go_upto_region 1 with fail;rw[←hw0];clear hw0;go_wp2_with fail;refine(HN.out _).mono ?_;rintro e w1 ⟨rfl,rfl⟩;go_wp2_with fail
  go_quiet (fail)
  go_wp2_with fail;go_ret2;exact⟨rfl,hb0.out.trans (aA _ _)⟩
def fitL (lo hi dx f2 n2 d2:Int):Option (Int×Int) :=
 if hi≤0∨180≤lo then none else
 let b1:=if 0<lo then min 100000 (cY (dx*ju lo) (gJ lo)) else 100000
 let a1:=if hi<180 then max (-100000) (-cY (-dx*ju hi) (gJ hi)) else -100000
 let room:=cY f2 100000000-d2
 if room<0 then none else
 let b2:=min b1 (fC room)
 let a2:=max a1 (-fC room)
 let short:=-cY n2 100000000-d2
 let a3:=if hi≤90 then max a2 (fG short) else a2
 let b3:=if 90≤lo then min b2 (-fG short) else b2
 if b3<a3 then none else some (a3,b3)
theorem fitR_l {c:Crs} (e dx:Int):fitR c e dx=fitL (eH c e-c.needle) (eH c e+c.needle) dx (c.far*c.far) (-c.near*c.near) (dx*dx):=by
 unfold fitR fitL;rw[mid_ref];simp only[floor_ref (by omega:(0:Int)<100000000)];obtain⟨lo,hlo⟩:=ag (eH c e-c.needle);obtain⟨hi,hhi⟩:=ag (eH c e+c.needle);rw[hlo,hhi]
 by_cases h0:hi≤0∨180≤lo
 ·rw[if_pos h0,if_pos h0]
 rw[if_neg h0,if_neg h0]
 have e1:(if 0<lo then min 100000 (floorR (dx*ju lo) (gJ lo)) else 100000)=if 0<lo then min 100000 (cY (dx*ju lo) (gJ lo)) else 100000:=by
  split
  ·rename_i h;rw[floor_ref (by have:=sg h (by omega);omega)]
  ·rfl
 have e2:(if hi<180 then max (-100000) (-floorR (-dx*ju hi) (gJ hi)) else -100000)=if hi<180 then max (-100000) (-cY (-dx*ju hi) (gJ hi)) else -100000:=by
  split
  ·rename_i h;rw[floor_ref (by have:=sg (by omega) h;omega)]
  ·rfl
 rw[e1,e2]
theorem rinterval_any (c:Crs) (e dx:Int) (hc:c.ok=true) (he:-60≤e∧e≤60) (hdx:1≤dx∧dx≤100000) (w:World) :
 Calls prog 313 #[c.val,.int .i64 e,.int .i64 dx] w fun r w'=>r=.returned (dY (fitR c e dx))∧Below w.heap.size w w':=by
 rw[fitR_l];have hcb:=Crs.ok_iff.1 hc;have hlen:=c.len_bd hc;have hm:=wh c e;have HSE:=aa (fun W=>rsector_any c e hc he W);obtain⟨lo,hlo⟩:=ag (eH c e-c.needle);obtain⟨hi,hhi⟩:=ag (eH c e+c.needle)
 have hlb:-120≤lo∧lo≤269:=by omega
 have hhb:-90≤hi∧hi≤299:=by omega
 rw[hlo,hhi] at HSE ⊢;have f2b:=zm hlen.2.1 hlen.2.2;have n2b:=zm hlen.1.1 hlen.1.2;have d2b:=zm (by omega:0≤dx) hdx.2
 have hng:-c.near*c.near=-(c.near*c.near):=by rw[Int.neg_mul]
 have wfa:IntKind.i64.wrap (c.links*(10000+c.wear+c.slack))=c.far:=IntWalk.i64_in _ (by unfold Crs.far at hlen;omega);have wne:IntKind.i64.wrap (c.links*(10000+c.wear-c.slack))=c.near:=IntWalk.i64_in _ (by unfold Crs.near at hlen;omega);obtain⟨far,hfar⟩:=ag c.far;obtain⟨near,hnear⟩:=ag c.near;rw[hfar] at f2b wfa ⊢;rw[hnear] at n2b wne hng ⊢;obtain⟨f2,hf2⟩:=ag (far*far);obtain⟨n2,hn2⟩:=ag (-near*near);obtain⟨d2,hd2⟩:=ag (dx*dx);rw[hn2] at hng;rw[←Int.neg_neg (near*near),←hng] at n2b;rw[hf2] at f2b;rw[hd2] at d2b;rw[hf2,hn2,hd2]
 have wf2:IntKind.i64.wrap (far*far)=f2:=by rw[hf2];exact IntWalk.i64_in _ (by omega)
 have wd2:IntKind.i64.wrap (dx*dx)=d2:=by rw[hd2];exact IntWalk.i64_in _ (by omega)
 have wn2:IntKind.i64.wrap (-near*near)=n2:=by rw[hn2];exact IntWalk.i64_in _ (by omega)
 have HFF:=aa (fun W=>rfloor_any f2 100000000 W (by omega) (by omega) (by omega));have ffb:=oP (a:=f2) (b:=100000000) (m:=1144900000000000000) (by omega) (by omega);have HFN:=aa (fun W=>rfloor_any n2 100000000 W (by omega) (by omega) (by omega));have ccb:=oP (a:=n2) (b:=100000000) (m:=1144900000000000000) (by omega) (by omega);have HCL:=aa (fun W=>rcos_any lo (by omega) (by omega) W);have HSL:=aa (fun W=>rsin_any lo (by omega) (by omega) W);have HCH:=aa (fun W=>rcos_any hi (by omega) (by omega) W);have HSH:=aa (fun W=>rsin_any hi (by omega) (by omega) W);have clb:=m8 lo;have slb:=ng lo;have chb:=m8 hi;have shb:=ng hi
 have slp:=fun h1 h2=>sg (d:=lo) h1 h2
 have shp:=fun h1 h2=>sg (d:=hi) h1 h2
 unfold fitL;dsimp only;obtain⟨ff,hff⟩:=ag (cY f2 100000000);obtain⟨fn,hfn⟩:=ag (cY n2 100000000);obtain⟨cl,hcl⟩:=ag (ju lo);obtain⟨sl,hsl⟩:=ag (gJ lo);obtain⟨ch,hch⟩:=ag (ju hi);obtain⟨sh,hsh⟩:=ag (gJ hi);rw[hff] at HFF ffb ⊢;rw[hfn] at HFN ccb ⊢;rw[hcl] at HCL clb ⊢;rw[hsl] at HSL slb slp ⊢;rw[hch] at HCH chb ⊢;rw[hsh] at HSH shb shp ⊢;have p1b:=m9 (d:=dx) clb.1 clb.2 (by omega) hdx.2;have p2b:=m9 (d:=dx) (x:=-ch) (by omega) (by omega) (by omega) hdx.2
 have hp2:dx*-ch=-dx*ch:=by rw[Int.mul_neg,Int.neg_mul]
 rw[hp2] at p2b;obtain⟨p1,hp1⟩:=ag (dx*cl);obtain⟨p2,hp22⟩:=ag (-dx*ch);rw[hp1] at p1b ⊢;rw[hp22] at p2b ⊢
 have wp1:IntKind.i64.wrap (dx*cl)=p1:=by rw[hp1];exact IntWalk.i64_in _ (by omega)
 have wp2:IntKind.i64.wrap (-dx*ch)=p2:=by rw[hp22];exact IntWalk.i64_in _ (by omega)
 have HF1:=aa (fun(h1:0<lo) (h2:lo<180) W=>rfloor_any p1 sl W (by omega) (by have:=slp h1 h2;omega) (by omega));have f1b:=oP (a:=p1) (b:=sl) (m:=1000000000) (by omega) (by omega);have HF2:=aa (fun(h1:0<hi) (h2:hi<180) W=>rfloor_any p2 sh W (by omega) (by have:=shp h1 h2;omega) (by omega));have f2bb:=oP (a:=p2) (b:=sh) (m:=1000000000) (by omega) (by omega);obtain⟨f1,hf1⟩:=ag (cY p1 sl);obtain⟨g2,hg2⟩:=ag (cY p2 sh);rw[hf1] at HF1 f1b ⊢;rw[hg2] at HF2 f2bb ⊢;obtain⟨room,hroom⟩:=ag (ff-d2);obtain⟨short,hshort⟩:=ag (-fn-d2)
 have hrb:-2000000000000000000≤room∧room≤2000000000000000000:=by omega
 have hsb:-2000000000000000000≤short∧short≤2000000000000000000:=by omega
 have wro:IntKind.i64.wrap (ff-d2)=room:=by rw[hroom];exact IntWalk.i64_in _ (by omega)
 have wsh:IntKind.i64.wrap (-fn-d2)=short:=by rw[hshort];exact IntWalk.i64_in _ (by omega)
 rw[hroom,hshort];have HRT:=aa (fun W=>rroot_any room (by omega) (by omega) W);have HRU:=aa (fun W=>rrootUp_any short (by omega) (by omega) W);have rb:=sr (n:=room) (by omega)
 have ub9Q:0≤fG short∧fG short≤3037000500:=by
  have:=sr (n:=short) (by omega);unfold fG
  split<;>omega
 obtain⟨rt,hrt⟩:=ag (fC room);obtain⟨ru9Q,hru⟩:=ag (fG short);rw[hrt] at HRT rb ⊢;rw[hru] at HRU ub9Q ⊢;obtain⟨b1,hb1⟩:=ag (if 0<lo then min 100000 f1 else(100000:Int));obtain⟨a1,ha1⟩:=ag (if hi<180 then max (-100000) (-g2) else(-100000:Int));rw[hb1,ha1]
 have b1b:-2000000000≤b1∧b1≤100000:=by rw[←hb1];split<;>omega
 have a1b:-100000≤a1∧a1≤2000000000:=by rw[←ha1];split<;>omega
 obtain⟨b2,hb2⟩:=ag (min b1 rt);obtain⟨a2,ha2⟩:=ag (max a1 (-rt));rw[hb2,ha2]
 have b2b:-2000000000≤b2∧b2≤100000:=by omega
 have a2b:-3100000000≤a2∧a2≤2000000000:=by omega
 obtain⟨a3,ha3⟩:=ag (if hi≤90 then max a2 ru9Q else a2);obtain⟨b3,hb3⟩:=ag (if 90≤lo then min b2 (-ru9Q) else b2);rw[ha3,hb3];obtain⟨R,hR⟩:∃R:Option (Int×Int),(if hi≤0∨180≤lo then none else if room<0 then none else if b3<a3 then none else some (a3,b3))=R:=⟨_,rfl⟩;rw[hR];have HB1:=aa hb1;have HA1:=aa ha1;have HB2:=aa hb2;have HA2:=aa ha2;have HA3:=aa ha3;have HB3:=aa hb3;obtain⟨w0,hw0⟩:∃W,W=w.alloc (.cells c.vals 46):=⟨_,rfl⟩;have B0:=aa (show Below w.heap.size w w0 by rw[hw0];exact aD);have X0:=aa (show Kb [(w.heap.size,.cells c.vals 46)] w0 by rw[hw0];exact Kb.alloc trivial);obtain⟨c1,c2,c3,c4,c5,c6⟩:=c
 unfold Crs.val Crs.vals at *
 dsimp only at *
 have wwa:IntKind.i64.wrap (10000+c5)=10000+c5:=IntWalk.i64_in _ (by omega);have wwb:IntKind.i64.wrap (10000+c5+c6)=10000+c5+c6:=IntWalk.i64_in _ (by omega);have wwc:IntKind.i64.wrap (10000+c5-c6)=10000+c5-c6:=IntWalk.i64_in _ (by omega);have k0:=ak X0.out.1;have HCB:=aa hcb;have wng:IntKind.i64.wrap (-near)=-near:=IntWalk.i64_in _ (by omega);have wfn:IntKind.i64.wrap (-fn)=-fn:=IntWalk.i64_in _ (by omega);clear hc he hm hlo hhi hlen f2b n2b d2b hng hfar hnear hf2 hn2 hd2 ffb ccb clb slb chb shb slp shp hff hfn hcl hsl hch hsh hp2 hp1 hp22 p1b p2b hf1 hg2 hroom hshort hrt hru hb1 ha1 hb2 ha2 ha3 hb3 hcb
 by_cases hA:hi≤0∨180≤lo
 ·rw[if_pos hA] at hR
  subst hR
  by_cases hA1:hi≤0
  ·clear hA
   go_enter func313,ntmps313;go_upto_region 1 with fail;rw[←hw0];clear hw0;go_wp2_with (go_at_call 332;refine(HSE.out _).mono ?_;rintro e w1 ⟨rfl,hs1⟩);refine bodyPost_ret (v:=dY none) (by simp[results,results313,go_sem,dY]) rfl ⟨rfl,bB B0.out hs1⟩
  ·have hA2:180≤lo:=by omega
   clear hA;go_enter func313,ntmps313;go_upto_region 1 with fail;rw[←hw0];clear hw0;go_wp2_with (go_at_call 332;refine(HSE.out _).mono ?_;rintro e w1 ⟨rfl,hs1⟩);refine bodyPost_ret (v:=dY none) (by simp[results,results313,go_sem,dY]) rfl ⟨rfl,bB B0.out hs1⟩
 rw[if_neg hA] at hR;have HR:=aa hR
 have hA1:¬hi≤0:=by omega
 have hA2:¬180≤lo:=by omega
 clear hA hR;go_enter func313,ntmps313;go_upto_region 1 with fail;rw[←hw0];clear hw0 k0;have k0:=ak X0.out.1;go_upto_region 2 with (go_at_call 332;refine(HSE.out _).mono ?_;rintro e w1 ⟨rfl,hs1⟩);have B1:=bU B0 hs1;have X1:=aa (X0.out.next hs1);clear hs1 B0 X0 k0 HSE;go_upto_if 30 with fail
 go_cut [12] (fun t wx=>t=.int .i64 b1∧Hid (Below w1.heap.size w1 wx))
 case first =>
  have hb1:=HB1.out;clear HB1
  by_cases q:0<lo
  ·rw[if_pos q] at hb1
   have HF:=aa (HF1.out q (by omega));go_wp2_with fail;refine(HCL.out _).mono ?_;rintro e w2 ⟨rfl,h2⟩;go_wp2_with fail;refine(HSL.out _).mono ?_;rintro e w3 ⟨rfl,h3⟩;go_wp2_with fail;refine(HF.out _).mono ?_;rintro e w4 ⟨rfl,rfl⟩;go_wp2_with fail;go_meet;exact⟨rfl,aa (bB h2 h3)⟩
  ·rw[if_neg q] at hb1
   subst hb1;go_wp2_with fail;go_meet;exact⟨rfl,aa (Below.refl _ _)⟩
 case rest =>
 obtain⟨rfl,HBa⟩:=hcut;obtain⟨w2,rfl⟩:∃z:World,z=wc:=⟨wc,rfl⟩;have B2:=bU B1 HBa.out;have X2:=aa (X1.out.next HBa.out);clear HBa B1 X1 HB1 HF1 HCL HSL;go_upto_if 41 with fail
 go_cut [11] (fun t wx=>t=.int .i64 a1∧Hid (Below w2.heap.size w2 wx))
 case first =>
  have ha1:=HA1.out;clear HA1
  by_cases q:hi<180
  ·rw[if_pos q] at ha1
   have HF:=aa (HF2.out (by omega) q);go_wp2_with fail;refine(HCH.out _).mono ?_;rintro e w3 ⟨rfl,h2⟩;go_wp2_with fail;refine(HSH.out _).mono ?_;rintro e w4 ⟨rfl,h3⟩;go_wp2_with fail;refine(HF.out _).mono ?_;rintro e w5 ⟨rfl,rfl⟩;go_wp2_with fail;go_meet;exact⟨rfl,aa (bB h2 h3)⟩
  ·rw[if_neg q] at ha1
   subst ha1;go_wp2_with fail;go_meet;exact⟨rfl,aa (Below.refl _ _)⟩
 case rest =>
 obtain⟨rfl,HBa⟩:=hcut;obtain⟨w3,rfl⟩:∃z:World,z=wc:=⟨wc,rfl⟩;have B3:=bU B2 HBa.out;have X3:=aa (X2.out.next HBa.out);clear HBa B2 X2 HA1 HF2 HCH HSH;have k0:=ak X3.out.1;have hb2:=HB2.out;have ha2:=HA2.out
 by_cases hro:room<0
 ·have hR:=HR.out
  rw[if_pos hro] at hR;subst hR;clear hb2 ha2 HR;go_upto_region 12 with (go_at_call 333;refine(HFF.out _).mono ?_;rintro e w4 ⟨rfl,rfl⟩);go_wp2_with fail;refine bodyPost_ret (v:=dY none) (by simp[results,results313,go_sem,dY]) rfl ⟨rfl,B3.out⟩
 have hR:=HR.out;rw[if_neg hro] at hR;have HR2:=aa hR;clear HR hR;go_upto_region 12 with (go_at_call 333;refine(HFF.out _).mono ?_;rintro e w4 ⟨rfl,rfl⟩);go_upto_region 16 with (go_at_call 336;refine(HRT.out _).mono ?_;rintro e w4 ⟨rfl,rfl⟩);go_upto_region 18 with (go_at_call 333;refine(HFN.out _).mono ?_;rintro e w4 ⟨rfl,rfl⟩);go_upto_if 105 with fail
 go_cut [11] (fun t wx=>t=.int .i64 a3∧wx=w3)
 case first =>
  have ha3:=HA3.out
  by_cases q:hi≤90
  ·rw[if_pos q] at ha3
   go_wp2_with fail;refine(HRU.out _).mono ?_;rintro e w4 ⟨rfl,rfl⟩;go_wp2_with fail;go_meet;exact⟨rfl,rfl⟩
  ·rw[if_neg q] at ha3
   clear HA3;subst ha3;go_wp2_with fail;go_meet;exact⟨rfl,rfl⟩
 case rest =>
 obtain⟨rfl,rfl⟩:=hcut;obtain⟨w3,rfl⟩:∃z:World,z=wc:=⟨wc,rfl⟩;go_upto_if 111 with fail
 go_cut [12] (fun t wx=>t=.int .i64 b3∧wx=w3)
 case first =>
  have hb3:=HB3.out
  by_cases q:90≤lo
  ·rw[if_pos q] at hb3
   go_wp2_with fail;refine(HRU.out _).mono ?_;rintro e w4 ⟨rfl,rfl⟩;go_wp2_with fail;go_meet;exact⟨rfl,rfl⟩
  ·rw[if_neg q] at hb3
   clear HB3;subst hb3;go_wp2_with fail;go_meet;exact⟨rfl,rfl⟩
 case rest =>
 obtain⟨rfl,rfl⟩:=hcut;obtain⟨w3,rfl⟩:∃z:World,z=wc:=⟨wc,rfl⟩
 by_cases hz:b3<a3
 ·have hR:=HR2.out
  rw[if_pos hz] at hR;subst hR;clear HR2;go_wp2_with fail;refine bodyPost_ret (v:=dY none) (by simp[results,results313,go_sem,dY]) rfl ⟨rfl,B3.out⟩
 ·have hR:=HR2.out
  rw[if_neg hz] at hR;subst hR;clear HR2;go_wp2_with fail;refine bodyPost_ret (v:=dY (some (a3,b3))) (by simp[results,results313,go_sem,dY]) rfl ⟨rfl,B3.out⟩
theorem rint_any (c:Crs) (e dx:Int) (hc:c.ok=true) (he:-60≤e∧e≤60) (hdx:1≤dx∧dx≤100000) (w:World) :
 Calls prog 313 #[c.val,.int .i64 e,.int .i64 dx] w fun r w'=>r=.returned (dY (vQ c e dx))∧Below w.heap.size w w':=by
 rw[←fit_ref hc e dx (by omega) hdx.2];exact rinterval_any c e dx hc he hdx w
theorem rboth_any (c:Crs) (e dx:Int) (hc:c.ok=true) (he:-60≤e∧e≤60) (hx:dx≠0∧-100000≤dx∧dx≤100000) (w:World) :
 Calls prog 280 #[c.val,.int .i64 e,.int .i64 dx] w fun r w'=>r=.returned (dY (gD c e dx))∧Below w.heap.size w w':=by
 unfold gD;have hcb:=Crs.ok_iff.1 hc;have hcb1:=hcb.1;obtain⟨w0,hw0⟩:∃W,W=w.alloc (.cells c.vals 46):=⟨_,rfl⟩;have B0:=aa (show Below w.heap.size w w0 by rw[hw0];exact aD);have X0:=aa (show Kb [(w.heap.size,.cells c.vals 46)] w0 by rw[hw0];exact Kb.alloc trivial)
 by_cases hd:dx<0
 ·rw[if_pos hd]
  have HN:=aa (fun W=>rnorm_any (c.bearing+180) (by omega) (by omega) W);have HI:=aa (fun W=>rint_any c.back e (-dx) (Crs.back_ok hc) he (by omega) W);have HP:=aa (fun p (q:vQ c.back e (-dx)=some p)=>qw (a:=p.1) (b:=p.2) q);unfold Crs.back at HI HP ⊢;obtain⟨v,hv⟩:=ag (cz (c.bearing+180));rw[hv] at HN HI HP ⊢;obtain⟨c1,c2,c3,c4,c5,c6⟩:=c
  unfold Crs.val Crs.vals at *
  dsimp only at *
  obtain⟨R,hR⟩:=ag (vQ (Crs.mk v c2 c3 c4 c5 c6) e (-dx));rw[hR] at HI HP ⊢;have XS:=aa (X0.out.set (i:=0) (by simp) (.int .i64 v));simp only[List.setIfInBounds_toArray,List.set_cons_zero] at XS;have k0:=ak X0.out.1;have f0:=cf (i:=0) X0.out.1;clear hR hc he hv hcb;go_enter func280,ntmps280;go_upto_region 1 with fail;rw[←hw0];clear hw0;go_upto_region 3 with (go_at_call 312;refine(HN.out _).mono ?_;rintro e w1 ⟨rfl,rfl⟩);obtain⟨w1,hw1⟩:∃W,W=w0.setCell ⟨w.heap.size,0,none⟩ (.int .i64 v):=⟨_,rfl⟩;have B1:=aa (show Below w.heap.size w w1 by rw[hw1];exact B0.out.setCell (by dsimp only;omega) _);rw[←hw1] at XS ⊢;clear hw1 k0 f0 X0 B0;have k0:=ak XS.out.1;go_wp2_with fail;refine(HI.out _).mono ?_;rintro e w2 ⟨rfl,hb2⟩;have B2:=bU B1 hb2;clear hb2 k0 XS B1 HI
  cases R with
  | none =>
    unfold dY;go_wp2_with fail;refine bodyPost_ret (v:=dY none) (by simp[results,results280,go_sem,dY]) rfl ⟨rfl,B2.out⟩
  | some p =>
    obtain⟨p1,p2⟩:=p;have hp:=HP.out _ rfl;dsimp only at hp;unfold dY;dsimp only[Option.map_some];go_wp2_with fail;refine bodyPost_ret (v:=dY (some (-p2,-p1))) (by simp[results,results280,go_sem,dY]) rfl ⟨rfl,B2.out⟩
 ·rw[if_neg hd]
  have HI:=aa (fun W=>rint_any c e dx hc he (by omega) W);obtain⟨R,hR⟩:=ag (vQ c e dx);rw[hR] at HI ⊢;obtain⟨c1,c2,c3,c4,c5,c6⟩:=c
  unfold Crs.val Crs.vals at *
  dsimp only at *
  have k0:=ak X0.out.1;clear hR hc he hcb;go_enter func280,ntmps280;go_upto_region 1 with fail;rw[←hw0];clear hw0;go_wp2_with fail;refine(HI.out _).mono ?_;rintro e w2 ⟨rfl,hb2⟩;have B2:=bU B0 hb2;clear hb2 k0 X0 B0 HI
  cases R with
  | none =>
    unfold dY;go_wp2_with fail;refine bodyPost_ret (v:=dY none) (by simp[results,results280,go_sem,dY]) rfl ⟨rfl,B2.out⟩
  | some p =>
    obtain⟨p1,p2⟩:=p;unfold dY;go_wp2_with fail;refine bodyPost_ret (v:=dY (some (p1,p2))) (by simp[results,results280,go_sem,dY]) rfl ⟨rfl,B2.out⟩
theorem rSector_any (w:World) (a:Option Addr) (cap:Nat) (l:List Vrn) (c:Crs) (hl:l.length≤9223372036854775807) (h:VrnsAt w a l) :
 Calls prog 310 #[.slice a l.length cap,c.val] w fun r w'=>(∃p q,r=.returned (.tuple #[.int .i64 p,.int .i64 q,.int .i64 (eW l c)]))∧Below w.heap.size w w':=by
 obtain⟨w0,hw0⟩:∃W,W=w.alloc (.cells c.vals 46):=⟨_,rfl⟩;have J0:=aa (show VC w a l w.heap.size c w0 by rw[hw0];exact yU h c);have HV:=aa (fun W (hW:VrnsAt W a l)=>refVrns_any W a cap l hl hW);have HC:=aa (fun W=>rcourse_any c W);have HD:=aa (fun W (hW:VrnsAt W a l)=>rdecl_any W a cap l c.year hl hW);have HS:=aa (fun(hc:c.ok=true) e (he:eN l c.year=some e) W=>rsector_any c e hc (Ai he) W);unfold eW;obtain⟨cv9Q,hcv⟩:=ag (bz l);obtain⟨D,hD⟩:=ag (eN l c.year);rw[hcv] at HV ⊢;rw[hD] at HD HS ⊢;obtain⟨ok,hok⟩:=ag c.ok;rw[hok] at HC HS ⊢;obtain⟨R,hR⟩:∃R:Int,(if cv9Q≠0 then cv9Q else if ok=false then 1 else if D=none then 20 else 0)=R:=⟨_,rfl⟩;rw[hR];obtain⟨c1,c2,c3,c4,c5,c6⟩:=c
 unfold Crs.val Crs.vals at *
 dsimp only at *
 have k0:=ak (show w0.heap[w.heap.size]?=some (.cells #[.int .i64 c1,.int .i64 c2,.int .i64 c3,.int .i64 c4,.int .i64 c5,.int .i64 c6] 46 (0,0)) from J0.out.k);have hv0:=J0.out.v;clear hcv hD hok h
 by_cases h1:cv9Q≠0
 ·rw[if_pos h1] at hR
  subst hR
  have h1b:(cv9Q==0)=false:=by simpa using h1
  have h1c:(cv9Q != 0)=true:=by simpa using h1
  clear h1;go_enter func310,ntmps310;go_upto_region 1 with fail;rw[←hw0];clear hw0;go_wp2_with (go_at_call 161;refine(HV.out _ hv0).mono ?_;rintro e w1 ⟨rfl,hb1⟩);refine bodyPost_ret (v:=.tuple #[.int .i64 0,.int .i64 0,.int .i64 cv9Q]) (by simp[results,results310,go_sem]) rfl ⟨⟨_,_,rfl⟩,bB J0.out.b hb1⟩
 obtain rfl:cv9Q=0:=by omega
 rw[if_neg h1] at hR;have HR:=aa hR;clear h1 hR;go_enter func310,ntmps310;go_upto_region 1 with fail;rw[←hw0];clear hw0;go_wp2_with fail;refine(HV.out _ hv0).mono ?_;rintro e w1 ⟨rfl,hb1⟩;have J1:=aa (J0.out.next hb1);have k1:=ak (show w1.heap[w.heap.size]?=some (.cells #[.int .i64 c1,.int .i64 c2,.int .i64 c3,.int .i64 c4,.int .i64 c5,.int .i64 c6] 46 (0,0)) from J1.out.k);clear hb1 k0 hv0 J0 HV;go_wp2_with fail;refine(HC.out _).mono ?_;rintro e w2 ⟨rfl,hb2⟩;have J2:=aa (J1.out.next hb2);have k2:=ak (show w2.heap[w.heap.size]?=some (.cells #[.int .i64 c1,.int .i64 c2,.int .i64 c3,.int .i64 c4,.int .i64 c5,.int .i64 c6] 46 (0,0)) from J2.out.k);clear hb2 k1 J1 HC;cases ok
 ·obtain rfl:1=R:=by have:=HR.out;rwa [if_pos rfl] at this
  simp only[reduceCtorEq,↓reduceIte];go_wp2_with fail;refine bodyPost_ret (v:=.tuple #[.int .i64 0,.int .i64 0,.int .i64 1]) (by simp[results,results310,go_sem]) rfl ⟨⟨_,_,rfl⟩,J2.out.b⟩
 have hR:=HR.out;rw[if_neg (by simp)] at hR;have HR2:=aa hR;clear HR hR;simp only[↓reduceIte];go_wp2_with fail;refine(HD.out _ J2.out.v).mono ?_;rintro e w3 ⟨rfl,hb3⟩;have J3:=aa (J2.out.next hb3);have k3:=ak (show w3.heap[w.heap.size]?=some (.cells #[.int .i64 c1,.int .i64 c2,.int .i64 c3,.int .i64 c4,.int .i64 c5,.int .i64 c6] 46 (0,0)) from J3.out.k);clear hb3 k2 J2 HD
 cases D with
 | none =>
   obtain rfl:20=R:=by have:=HR2.out;rwa [if_pos rfl] at this
   unfold vW;go_wp2_with fail;refine bodyPost_ret (v:=.tuple #[.int .i64 0,.int .i64 0,.int .i64 20]) (by simp[results,results310,go_sem]) rfl ⟨⟨_,_,rfl⟩,J3.out.b⟩
 | some e =>
   have HS2:=aa (HS.out trivial e rfl);clear HS
   obtain rfl:0=R:=by have:=HR2.out;rwa [if_neg (by simp)] at this
   unfold vW;go_wp2_with fail;refine(HS2.out _).mono ?_;rintro e w4 ⟨rfl,hb4⟩;have J4:=aa (J3.out.next hb4);clear hb4 k3 J3 HS2;go_wp2_with fail;refine bodyPost_ret (v:=.tuple #[.int .i64 _,.int .i64 _,.int .i64 0]) (by simp[results,results310,go_sem];exact⟨rfl,rfl⟩) rfl ⟨⟨_,_,rfl⟩,J4.out.b⟩
def openedE (l:List Vrn) (c:Crs) (dx:Int):Int:=if eW l c≠0 then eW l c else if dx=0∨bm dx (-100000) 100000=false then 1 else 0
theorem ropened_any (w:World) (a:Option Addr) (cap:Nat) (l:List Vrn) (c:Crs) (dx:Int) (hl:l.length≤9223372036854775807) (h:VrnsAt w a l) :
 Calls prog 279 #[.slice a l.length cap,c.val,.int .i64 dx,.int .i64 0] w fun r w'=>r=.returned (.tuple #[.int .i64 (if openedE l c dx=0 then(eN l c.year).getD 0 else 0),.int .i64 (openedE l c dx)])∧Below w.heap.size w w':=by
 obtain⟨w0,hw0⟩:∃W,W=w.alloc (.cells c.vals 46):=⟨_,rfl⟩;have J0:=aa (show VC w a l w.heap.size c w0 by rw[hw0];exact yU h c);have HS:=aa (fun W (hW:VrnsAt W a l)=>rSector_any W a cap l c hl hW);have HD:=aa (fun W (hW:VrnsAt W a l)=>rdecl_any W a cap l c.year hl hW);have HK:=aa (fun(q:eW l c=0)=>(A7 dx q).2);unfold openedE;obtain⟨cv9Q,hcv⟩:=ag (eW l c);obtain⟨D,hD⟩:=ag (eN l c.year);rw[hcv] at HS HK ⊢;rw[hD] at HD HK ⊢;obtain⟨c1,c2,c3,c4,c5,c6⟩:=c
 unfold Crs.val Crs.vals at *
 dsimp only at *
 have k0:=ak (show w0.heap[w.heap.size]?=some (.cells #[.int .i64 c1,.int .i64 c2,.int .i64 c3,.int .i64 c4,.int .i64 c5,.int .i64 c6] 46 (0,0)) from J0.out.k);have hv0:=J0.out.v;clear hcv hD h
 by_cases h1:cv9Q≠0
 ·simp only[if_pos h1,if_neg h1]
  have h1c:(cv9Q != 0)=true:=by simpa using h1
  clear h1 HK;go_enter func279,ntmps279;go_upto_region 1 with fail;rw[←hw0];clear hw0;go_wp2_with (go_at_call 310;refine(HS.out _ hv0).mono ?_;rintro e w1 ⟨⟨p,q,rfl⟩,hb1⟩);refine bodyPost_ret (v:=.tuple #[.int .i64 0,.int .i64 cv9Q]) (by simp[results,results279,go_sem]) rfl ⟨rfl,bB J0.out.b hb1⟩
 obtain rfl:cv9Q=0:=by omega
 obtain⟨e,he,-⟩:=HK.out rfl;have he2:D=some e:=he;subst he2;simp only[if_neg h1,Option.getD_some];clear h1 HK he;unfold bm
 by_cases h2:dx=0∨(decide (-100000≤dx)&&decide (dx≤100000))=false
 ·simp only[if_pos h2]
  have hcs:dx=0∨(¬dx=0∧dx < -100000)∨(¬dx=0∧¬dx < -100000∧100000<dx):=by
   simp at h2;omega
  clear h2
  rcases hcs with rfl|⟨q1,q2⟩|⟨q1,q2,q3⟩
  all_goals
   go_enter func279,ntmps279;go_upto_region 1 with fail;rw[←hw0];clear hw0;go_wp2_with (go_at_call 310;refine(HS.out _ hv0).mono ?_;rintro e w1 ⟨⟨p,q,rfl⟩,hb1⟩);refine bodyPost_ret (v:=.tuple #[.int .i64 0,.int .i64 1]) (by simp[results,results279,go_sem]) rfl ⟨rfl,bB J0.out.b hb1⟩
 ·simp only[if_neg h2]
  have q1:(dx==0)=false:=by simpa using fun z=>h2 (.inl z)
  have q2:¬dx < -100000:=fun z=>h2 (.inr (by simp;omega))
  have q3:¬100000<dx:=fun z=>h2 (.inr (by simp;omega))
  clear h2;go_enter func279,ntmps279;go_upto_region 1 with fail;rw[←hw0];clear hw0;go_upto_region 6 with (go_at_call 310;refine(HS.out _ hv0).mono ?_;rintro e w1 ⟨⟨p,q,rfl⟩,hb1⟩);have J1:=aa (J0.out.next hb1);have k1:=ak (show w1.heap[w.heap.size]?=some (.cells #[.int .i64 c1,.int .i64 c2,.int .i64 c3,.int .i64 c4,.int .i64 c5,.int .i64 c6] 46 (0,0)) from J1.out.k);clear hb1 k0 hv0 J0 HS;go_wp2_with fail;refine(HD.out _ J1.out.v).mono ?_;rintro e w2 ⟨rfl,hb2⟩;have J2:=aa (J1.out.next hb2);clear hb2 k1 J1;unfold vW;go_wp2_with fail;refine bodyPost_ret (v:=.tuple #[.int .i64 e,.int .i64 0]) (by simp[results,results279,go_sem]) rfl ⟨rfl,J2.out.b⟩
theorem ritv_any (w:World) (a:Option Addr) (cap:Nat) (l:List Vrn) (c:Crs) (dx:Int) (hl:l.length≤9223372036854775807) (h:VrnsAt w a l) :
 Calls prog 238 #[.slice a l.length cap,c.val,.int .i64 dx] w fun r w'=>r=.returned (il (lD l c dx))∧Below w.heap.size w w':=by
 obtain⟨w0,hw0⟩:∃W,W=w.alloc (.cells c.vals 46):=⟨_,rfl⟩;have J0:=aa (show VC w a l w.heap.size c w0 by rw[hw0];exact yU h c);have HO:=aa (fun W (hW:VrnsAt W a l)=>ropened_any W a cap l c dx hl hW);obtain⟨R,hR⟩:=ag (lD l c dx)
 have HZ:openedE l c dx≠0→R=(none,openedE l c dx):=fun q=>by
  rw[←hR];unfold openedE at q ⊢
  by_cases h1:eW l c≠0
  ·rw[if_pos h1];exact uX dx h1
  ·rw[if_neg h1] at q ⊢
   by_cases h2:dx=0∨bm dx (-100000) 100000=false
   ·rw[if_pos h2]
    obtain⟨-,e,-,he⟩:=A7 dx (Classical.not_not.1 h1);rw[he,if_pos h2]
   ·rw[if_neg h2] at q;exact absurd rfl q
 have HY:openedE l c dx=0→c.ok=true∧(dx≠0∧-100000≤dx∧dx≤100000)∧∃e,eN l c.year=some e∧R=(gD c e dx,0):=fun q=>by
  unfold openedE at q
  by_cases h1:eW l c≠0
  ·rw[if_pos h1] at q;exact absurd q h1
  ·rw[if_neg h1] at q
   by_cases h2:dx=0∨bm dx (-100000) 100000=false
   ·rw[if_pos h2] at q;cases q
   ·obtain⟨ok,e,hd,he⟩:=A7 dx (Classical.not_not.1 h1)
    rw[hR,if_neg h2] at he;refine⟨ok,?_,e,hd,he⟩;unfold bm at h2;simp at h2;omega
 have HZ2:=aa HZ;have HY2:=aa HY;rw[hR];clear HZ HY hR;have hv0:=J0.out.v;have HB:=aa (fun(hc:c.ok=true) e (he:eN l c.year=some e) (hx:dx≠0∧-100000≤dx∧dx≤100000) W=>rboth_any c e dx hc (Ai he) hx W);obtain⟨er,her⟩:=ag (openedE l c dx);rw[her] at HO HZ2 HY2;clear h her;have HK:=aa (show ∀W,VC w a l w.heap.size c W→W.heap[w.heap.size]?=some (.cells c.vals 46 (0,0)) from fun W h=>h.k)
 by_cases h1:er≠0
 ·have hR:=HZ2.out h1
  have h1c:(er != 0)=true:=by simpa using h1
  rw[if_neg h1] at HO;subst hR;have k0:=ak (HK.out _ J0.out)
  unfold Crs.val Crs.vals at *
  clear h1 HY2 HZ2 HB HK;go_enter func238,ntmps238;go_upto_region 1 with fail;rw[←hw0];clear hw0;go_wp2_with (go_at_call 279;refine(HO.out _ hv0).mono ?_;rintro e w1 ⟨rfl,hb1⟩);refine bodyPost_ret (v:=il (none,er)) (by simp[results,results238,go_sem,il]) rfl ⟨rfl,bB J0.out.b hb1⟩
 obtain rfl:er=0:=by omega
 obtain⟨ok,hx,e,hd,hR⟩:=HY2.out rfl;have HB2:=aa (HB.out ok e hd hx);rw[if_pos rfl,hd,Option.getD_some] at HO;obtain⟨fb,hfb⟩:=ag (gD c e dx);rw[hfb] at HB2 hR;subst hR;have k0:=ak (HK.out _ J0.out)
 unfold Crs.val at *
 have HK2:=aa (fun W (h:VC w a l w.heap.size c W)=>ak (HK.out W h));unfold Crs.vals at k0 HO HB2 HK2 ⊢;clear h1 HY2 HZ2 HB HK ok hx hd hfb;go_enter func238,ntmps238;go_upto_region 1 with fail;rw[show w.alloc (.cells #[.int .i64 c.bearing,.int .i64 c.needle,.int .i64 c.links,.int .i64 c.year,.int .i64 c.wear,.int .i64 c.slack] 46)=w0 from hw0.symm];clear hw0;go_wp2_with fail;refine(HO.out _ hv0).mono ?_;rintro e w1 ⟨rfl,hb1⟩;have J1:=aa (J0.out.next hb1);have k1:=HK2.out w1 J1.out;clear hb1 k0 hv0 J0 HO HK2;go_wp2_with fail;refine(HB2.out _).mono ?_;rintro e w2 ⟨rfl,hb2⟩;have J2:=aa (J1.out.next hb2);clear hb2 k1 J1 HB2
 cases fb with
 | none =>
   unfold dY;go_wp2_with fail;refine bodyPost_ret (v:=il (none,0)) (by simp[results,results238,go_sem,il]) rfl ⟨rfl,J2.out.b⟩
 | some p =>
   obtain⟨p1,p2⟩:=p;unfold dY;go_wp2_with fail;refine bodyPost_ret (v:=il (some (p1,p2),0)) (by simp[results,results238,go_sem,il]) rfl ⟨rfl,J2.out.b⟩
theorem strs_news {w:World} {b off:Nat} {l:List ByteArray} (hc:∀i (h:i<l.length) j,j<1→w.cell? ⟨b,off+i*1+j,none⟩=(cO l[i])[j]?):∀j u,(l.flatMap cO)[j]?=some u→w.cell? ((⟨b,off,none⟩:Addr).add j)=some u:=by
 intro j u hj;rw[show((⟨b,off,none⟩:Addr).add j)=⟨b,off+j,none⟩ from by unfold Addr.add;split<;>simp_all]
 have hlt:j<l.length:=by
  have:=(List.getElem?_eq_some_iff.1 hj).1;rw[flatMap_len (k:=1) (fun _=>rfl)] at this;omega
 have h1:=hc j hlt 0 (by omega);have h2:=mL (k:=1) (f:=cO) (fun _=>rfl) l j hlt 0 (by omega);rw[Nat.mul_one,Nat.add_zero] at h1 h2;rw[h1,←h2,hj]
theorem append_strs (w:World) (base:Nat) (v:Value) (xs:List ByteArray) (hown:w.ownsRow base 9 1 v xs.length (xs.flatMap cO)) (a:Option Addr) (cap:Nat) (l:List ByteArray) (h:StrsAt w a l) (hn:l≠[]) (hx:xs.length≤100000) (hl:l.length≤100000) (hb:base≤w.heap.size) (ty:TypeId) :
 ∃v' w',(Builtin.append_ #[23,23] ty #[v,.slice a l.length cap]).run prog w=.ok v' w'∧w'.ownsRow base 9 1 v' (xs++l).length ((xs++l).flatMap cO)∧Below base w w':=by
 obtain⟨i0,hi,hz0,hz1,hz2⟩:=info_parts AW
 rcases h with e|⟨b,off,rfl,_,hc⟩
 ·exact absurd e hn
 obtain⟨v',w',hrun,h2,h3,_,h5⟩:=run_append_own_at (P:=prog) w base 23 ty 9 i0 _ 1 16 underlying23 hi hz0 hz1 hz2 rfl (by decide) v _ _ hown ⟨b,off,none⟩ l.length cap (l.flatMap cO) (flatMap_len (k:=1) (f:=cO) (fun _=>rfl) l) (strs_news hc) (by intro u hu;obtain⟨s,_,hs⟩:=List.mem_flatMap.1 hu;simp[cO] at hs;subst hs;rfl) (by unfold maxLen;omega) (by omega) hb;refine⟨v',w',hrun,by rw[List.length_append,List.flatMap_append];exact h2,(Below.refl base w).grown h3 hb (fun q e=>?_)⟩
 rcases hown.2 with ⟨e1,_⟩|⟨g1,cp',cu,e1,hge,hh,_⟩
 ·rw[e1] at e;simp[Value.ownBlock] at e
 ·rw[e1] at e
  simp only[Value.ownBlock,Option.some.injEq] at e;omega
def RNamesPost (w:World) (l:List ByteArray) (e:Ending) (w':World):Prop :=
 (∃o c,e=.returned (.slice o l.length c)∧StrsAt w' o l∧l.length≤c∧c≤9223372036854775807)∧Below w.heap.size w w'
theorem rnames_mk {w w':World} {base:Nat} {v:Value} {l:List ByteArray} (h:w'.ownsRow base 9 1 v l.length (l.flatMap cO)) (hb:Below w.heap.size w w'):RNamesPost w l (.returned v) w':=by
 obtain⟨o,c,rfl,h1,h2,h3,_⟩:=iO (f:=cO) (fun _=>rfl) h;exact⟨⟨o,c,rfl,h1,h2,h3⟩,hb⟩
theorem rnames_mk' {w w':World} {base n:Nat} {v:Value} {l:List ByteArray} (hn:n=l.length) (h:w'.ownsRow base 9 1 v n (l.flatMap cO)) (hb:Below w.heap.size w w'):RNamesPost w l (.returned v) w':=by
 subst hn;exact rnames_mk h hb
theorem refNames0_any (w:World) (x:FV) (F:Fld) (h1:F.sts.length≤4000) (h:FldAt w x F) :
 Calls prog 162 #[x.val F,.int .i64 0] w (RNamesPost w (F.sts.map Sta.name)):=by
 have H:=aa h.st;clear h;unfold FV.val FV.arr;obtain⟨aS,cS,aL,cL,aP,cP,aV,cV⟩:=x;obtain⟨st,lm,pr,vr⟩:=F;dsimp only at h1 H ⊢;obtain⟨W0,hW0⟩:∃W0,W0=w.alloc (.cells #[.slice aS st.length cS,.slice aL lm.length cL,.slice aP pr.length cP,.slice aV vr.length cV] 27):=⟨_,rfl⟩
 have hb0:Below w.heap.size w W0:=by rw[hW0];exact aD
 have x0:W0.heap[w.heap.size]?=some (.cells #[.slice aS st.length cS,.slice aL lm.length cL,.slice aP pr.length cP,.slice aV vr.length cV] 27 (0,0)):=by rw[hW0];exact heap_alloc_new _ _
 have c0:W0.cell? ⟨w.heap.size,0,none⟩=some (.slice aS st.length cS):=bu x0 rfl;have l0:w.heap.size<W0.heap.size:=lt_of_block x0;have B0:=aa hb0;have C0:=aa c0;go_enter func162,ntmps162;go_upto_region 1 with fail;rw[←hW0];clear hW0 hb0 x0 c0;go_wp2_with fail
 go_loopw [5,6] (fun v i wr=>∃k:Nat,k≤st.length∧i=.int .i64 k∧Hid (wr.ownsRow W0.heap.size 9 1 v k (((st.take k).map Sta.name).flatMap cO))∧Hid (Below W0.heap.size W0 wr))
  (fun _ i _=>st.length-(intOf i).toNat)
 case atStart=>exact⟨0,Nat.zero_le _,rfl,aa (World.ownsRow_nil _ _ _ _),aa (Below.refl _ _)⟩
 case round =>
  obtain⟨k,hk,rfl,HOWN,HB⟩:=hrel;obtain⟨wx,rfl⟩:∃x:World,x=wr:=⟨wr,rfl⟩;have cc:wx.cell? ⟨w.heap.size,0,none⟩=some (.slice aS st.length cS):=(HB.out.cell (p:=⟨w.heap.size,0,none⟩) l0).trans C0.out
  by_cases hlt:k<st.length
  ·obtain⟨b,off,rfl,hbl,hc⟩:=RecsAt.at H.out hlt
   have HTK:Hid (((st.take (k+1)).map Sta.name).flatMap cO=((st.take k).map Sta.name).flatMap cO++[.string (st[k]).name]):=aa (by rw[List.take_succ_eq_append_getElem hlt,List.map_append,List.flatMap_append];rfl);obtain⟨x,hx⟩:=ag (st[k]);rw[hx] at hc HTK;have z0:=hc 0 (by omega);have BW:=bU B0 HB.out;rw[←BW.out.cell hbl,Nat.add_zero] at z0;simp only[Sta.cells,List.getElem?_cons_zero] at z0;clear hc hx;have HLT:=aa hlt;have own3:=HOWN.out.alloc (.cells #[.string x.name] 9);obtain⟨v',wa,hrun,hown',hbl2,_⟩:=ij (w:=wx.alloc (.cells #[.string x.name] 9)) (tS:=23) underlying23 AW rfl (by decide) (by decide) own3 (b:=wx.heap.size) (news:=[.string x.name]) rfl (heap_alloc_new _ _) (by intro u hu;simp at hu;subst hu;rfl) (by omega) (by have:=HB.out.size;simp;omega) 23;have HRUN:=aa hrun;have HOW:=aa (show wa.ownsRow W0.heap.size 9 1 v' (k+1) (((st.take (k+1)).map Sta.name).flatMap cO) by rw[HTK.out];exact hown');have HBL:=aa ((HB.out.alloc HB.out.size _).trans hbl2);clear hrun hown' hbl2 own3 HTK;go_wp2_with (at_builtin;refine aN rfl (s:=.tmp 17) (x:=.tmp 24) (t:=23) rfl rfl rfl HRUN.out ?_);go_roundw
   case rel=>exact⟨k+1,HLT.out,by go_num,HOW,HBL⟩
   case measure=>have:=HLT.out;simp[intOf];omega
  ·obtain rfl:k=st.length:=by omega
   have ho:=HOWN.out;rw[List.take_length] at ho;have HO:=aa ho;clear ho HOWN;have BW:=bU B0 HB.out;go_wp2_with fail;go_ret;exact rnames_mk' (List.length_map _).symm HO.out BW.out
theorem refNames2_any (w:World) (x:FV) (F:Fld) (h1:F.prs.length≤4000) (h:FldAt w x F) :
 Calls prog 162 #[x.val F,.int .i64 2] w (RNamesPost w (F.prs.map Par.name)):=by
 have H:=aa h.pr;clear h;unfold FV.val FV.arr;obtain⟨aS,cS,aL,cL,aP,cP,aV,cV⟩:=x;obtain⟨st,lm,pr,vr⟩:=F;dsimp only at h1 H ⊢;obtain⟨W0,hW0⟩:∃W0,W0=w.alloc (.cells #[.slice aS st.length cS,.slice aL lm.length cL,.slice aP pr.length cP,.slice aV vr.length cV] 27):=⟨_,rfl⟩
 have hb0:Below w.heap.size w W0:=by rw[hW0];exact aD
 have x0:W0.heap[w.heap.size]?=some (.cells #[.slice aS st.length cS,.slice aL lm.length cL,.slice aP pr.length cP,.slice aV vr.length cV] 27 (0,0)):=by rw[hW0];exact heap_alloc_new _ _
 have c0:W0.cell? ⟨w.heap.size,2,none⟩=some (.slice aP pr.length cP):=bu x0 rfl;have l0:w.heap.size<W0.heap.size:=lt_of_block x0;have B0:=aa hb0;have C0:=aa c0;go_enter func162,ntmps162;go_upto_region 1 with fail;rw[←hW0];clear hW0 hb0 x0 c0;go_wp2_with fail
 go_loopw [5,7] (fun v i wr=>∃k:Nat,k≤pr.length∧i=.int .i64 k∧Hid (wr.ownsRow W0.heap.size 9 1 v k (((pr.take k).map Par.name).flatMap cO))∧Hid (Below W0.heap.size W0 wr))
  (fun _ i _=>pr.length-(intOf i).toNat)
 case atStart=>exact⟨0,Nat.zero_le _,rfl,aa (World.ownsRow_nil _ _ _ _),aa (Below.refl _ _)⟩
 case round =>
  obtain⟨k,hk,rfl,HOWN,HB⟩:=hrel;obtain⟨wx,rfl⟩:∃x:World,x=wr:=⟨wr,rfl⟩;have cc:wx.cell? ⟨w.heap.size,2,none⟩=some (.slice aP pr.length cP):=(HB.out.cell (p:=⟨w.heap.size,2,none⟩) l0).trans C0.out
  by_cases hlt:k<pr.length
  ·obtain⟨b,off,rfl,hbl,hc⟩:=RecsAt.at H.out hlt
   have HTK:Hid (((pr.take (k+1)).map Par.name).flatMap cO=((pr.take k).map Par.name).flatMap cO++[.string (pr[k]).name]):=aa (by rw[List.take_succ_eq_append_getElem hlt,List.map_append,List.flatMap_append];rfl);obtain⟨x,hx⟩:=ag (pr[k]);rw[hx] at hc HTK;have z0:=hc 0 (by omega);have BW:=bU B0 HB.out;rw[←BW.out.cell hbl,Nat.add_zero] at z0;simp only[Par.cells,List.getElem?_cons_zero] at z0;clear hc hx;have HLT:=aa hlt;have own3:=HOWN.out.alloc (.cells #[.string x.name] 9);obtain⟨v',wa,hrun,hown',hbl2,_⟩:=ij (w:=wx.alloc (.cells #[.string x.name] 9)) (tS:=23) underlying23 AW rfl (by decide) (by decide) own3 (b:=wx.heap.size) (news:=[.string x.name]) rfl (heap_alloc_new _ _) (by intro u hu;simp at hu;subst hu;rfl) (by omega) (by have:=HB.out.size;simp;omega) 23;have HRUN:=aa hrun;have HOW:=aa (show wa.ownsRow W0.heap.size 9 1 v' (k+1) (((pr.take (k+1)).map Par.name).flatMap cO) by rw[HTK.out];exact hown');have HBL:=aa ((HB.out.alloc HB.out.size _).trans hbl2);clear hrun hown' hbl2 own3 HTK;go_wp2_with (at_builtin;refine aN rfl (s:=.tmp 41) (x:=.tmp 48) (t:=23) rfl rfl rfl HRUN.out ?_);go_roundw
   case rel=>exact⟨k+1,HLT.out,by go_num,HOW,HBL⟩
   case measure=>have:=HLT.out;simp[intOf];omega
  ·obtain rfl:k=pr.length:=by omega
   have ho:=HOWN.out;rw[List.take_length] at ho;have HO:=aa ho;clear ho HOWN;have BW:=bU B0 HB.out;go_wp2_with fail;go_ret;exact rnames_mk' (List.length_map _).symm HO.out BW.out
theorem refNames1_any (w:World) (x:FV) (F:Fld) (h1:F.lms.length≤4000) (h2:1≤F.lms.length) (h:FldAt w x F) :
 Calls prog 162 #[x.val F,.int .i64 1] w (RNamesPost w F.lms):=by
 have H:=aa h.lm;clear h;unfold FV.val FV.arr;obtain⟨aS,cS,aL,cL,aP,cP,aV,cV⟩:=x;obtain⟨st,lm,pr,vr⟩:=F;dsimp only at h1 h2 H ⊢;obtain⟨W0,hW0⟩:∃W0,W0=w.alloc (.cells #[.slice aS st.length cS,.slice aL lm.length cL,.slice aP pr.length cP,.slice aV vr.length cV] 27):=⟨_,rfl⟩
 have hb0:Below w.heap.size w W0:=by rw[hW0];exact aD
 have x0:W0.heap[w.heap.size]?=some (.cells #[.slice aS st.length cS,.slice aL lm.length cL,.slice aP pr.length cP,.slice aV vr.length cV] 27 (0,0)):=by rw[hW0];exact heap_alloc_new _ _
 have c1:W0.cell? ⟨w.heap.size,1,none⟩=some (.slice aL lm.length cL):=bu x0 rfl;have l0:w.heap.size<W0.heap.size:=lt_of_block x0;have B0:=aa hb0;obtain⟨v',wa,hrun,hown,hbl⟩:=append_strs W0 W0.heap.size (.slice none 0 0) [] (World.ownsRow_nil _ _ _ _) aL cL lm (H.out.below hb0 (Nat.le_refl _)) (fun e=>by subst e;simp at h2) (by simp) (by omega) (Nat.le_refl _) 23;rw[List.nil_append] at hown;have HRUN:=aa hrun;have HO:=aa hown;have HBL:=bU B0 hbl;clear hrun hown hbl;go_enter func162,ntmps162;go_upto_region 1 with fail;rw[←hW0];clear hW0 hb0 x0;go_wp2_with (at_builtin;refine aN rfl (s:=.tmp 28) (x:=.tmp 30) (t:=23) rfl rfl rfl HRUN.out ?_);go_ret;exact rnames_mk HO.out HBL.out
def Fld.ordB (F:Fld):Bool:=eQ F.sts F.sts.length&&eV F.prs F.prs.length
theorem overB_common (p q:Par) (_hp:p.small) (_hq:q.small):nG p q=(p.south==q.south&&decide (max 0 (min p.est q.est-max p.wst q.wst+1)>1)):=by
 unfold nG
 congr 1
 apply decide_eq_decide.2
 omega
theorem ordered_any (w:World) (x:FV) (F:Fld) (h1:F.sts.length≤1000) (h2:F.prs.length≤1000) (hs:∀p∈F.prs,p.small) (h:FldAt w x F) :
 Calls prog 166 #[x.val F] w fun e w'=>e=.returned (.bool F.ordB)∧Below w.heap.size w w':=by
 have H:=aa h;have HSM:=aa hs;clear h hs;obtain⟨Q,hQ⟩:=ag F.ordB;rw[hQ];unfold FV.val FV.arr;obtain⟨aS,cS,aL,cL,aP,cP,aV,cV⟩:=x;obtain⟨st,lm,pr,vr⟩:=F;unfold Fld.ordB at hQ;dsimp only at h1 h2 H hQ HSM ⊢;have HQ:=aa hQ;clear hQ;obtain⟨W0,hW0⟩:∃W0,W0=w.alloc (.cells #[.slice aS st.length cS,.slice aL lm.length cL,.slice aP pr.length cP,.slice aV vr.length cV] 27):=⟨_,rfl⟩;have B0:=aa (show Below w.heap.size w W0 by rw[hW0];exact aD);have X0:=aa (show W0.heap[w.heap.size]?=some (.cells #[.slice aS st.length cS,.slice aL lm.length cL,.slice aP pr.length cP,.slice aV vr.length cV] 27 (0,0)) by rw[hW0];exact heap_alloc_new _ _);have l0:w.heap.size<W0.heap.size:=lt_of_block X0.out;go_enter func166,ntmps166;go_upto_region 1 with fail;rw[←hW0];clear hW0;go_wp2_with fail
 go_loopw [3] (fun i wr=>∃k nd:Nat,1≤k∧(k≤st.length∨k=1)∧i=.int .i64 k∧Hid (eQ st k=true)∧wr=W0.drewN nd) (fun i _=>st.length-(intOf i).toNat)
 case atStart=>exact⟨1,0,by omega,.inr rfl,rfl,aa (by simp[eQ,List.range_succ]),rfl⟩
 case round =>
  obtain⟨k,nd,hk1,hk,rfl,HA,rfl⟩:=hrel;have c0:W0.cell? ⟨w.heap.size,0,none⟩=some (.slice aS st.length cS):=bu X0.out rfl
  by_cases hlt:k<st.length
  ·obtain⟨b,off,rfl,hbl,hcc⟩:=RecsAt.at H.out.st hlt
   have e1:=hcc 1 (by omega);obtain⟨b',off',eq',_,hcc'⟩:=RecsAt.at H.out.st (show k-1<st.length by omega);cases eq';have f1:=hcc' 1 (by omega);rw[←B0.out.cell hbl] at e1 f1;dsimp only at e1 f1;simp only[Sta.cells,List.getElem?_cons_zero,List.getElem?_cons_succ] at e1 f1;have HSUC:=aa (uh st k);rw[show(st.getD (k-1) js)=st[k-1] from by simp[show k-1<st.length by omega],show st.getD k js=st[k] from by simp[hlt]] at HSUC;obtain⟨u,hu⟩:=ag (st[k-1].x);obtain⟨v,hv⟩:=ag (st[k].x);rw[hu] at f1 HSUC;rw[hv] at e1 HSUC;obtain⟨j,rfl⟩:∃j,k=j+1:=⟨k-1,by omega⟩;simp only[Nat.add_sub_cancel] at f1
   have hj1:(((j+1:Nat):Int)-1)=(j:Int):=by omega
   have hjw:IntKind.i64.wrap (j:Int)=(j:Int):=IntWalk.i64_in _ (by omega)
   have hdl:decide (((j+1:Nat):Int)<(st.length:Int))=true:=by simp;omega
   have hjl:j<st.length:=by omega
   clear hu hv hcc hcc'
   by_cases huv:u<v
   ·have hd:decide (u≥v)=false:=by simp;omega
    have HS:Hid (eQ st (j+1+1)=true):=aa (by rw[HSUC.out,HA.out];simp[huv]);clear huv;go_wp2_with fail
    go_quiet (fail)
    go_wp2_with fail;go_roundw
    case rel=>exact⟨j+1+1,_,by omega,.inl (by omega),by go_num,HS,rfl⟩
    case measure=>simp[intOf];omega
   ·have hd:decide (u≥v)=true:=by simp;omega
    obtain rfl:false=Q:=by rw[←HQ.out,sX (n:=st.length) (k:=j+1+1) (by omega) (by rw[HSUC.out];simp[huv])];rfl
    clear huv;go_wp2_with fail
    go_quiet (fail)
    go_wp2_with fail;go_ret;exact⟨rfl,(B0.out.trans (aA _ _)).trans (aA _ _)⟩
  ·have hall:eQ st st.length=true:=by
    have h3:=HA.out
    rcases hk with h4|h4
    ·rw[show st.length=k by omega];exact h3
    ·subst h4
     cases hz:eQ st st.length with
     | true=>rfl
     | false=>rw[sX (k:=st.length) (by omega) hz] at h3;cases h3
   have HQ2:Hid (eV pr pr.length=Q):=aa (by rw[←HQ.out,hall,Bool.true_and])
   have hdl:decide ((k:Int)<(st.length:Int))=false:=by simp;omega
   clear hall HQ HA;go_wp2_with fail;clear c0;obtain⟨W1,hw1⟩:∃X:World,X=W0.drewN nd:=⟨_,rfl⟩;rw[←hw1];have B1:=aa (show Below w.heap.size w W1 by rw[hw1];exact B0.out.trans (aA _ _));have X1:=aa (show W1.heap[w.heap.size]?=some (.cells #[.slice aS st.length cS,.slice aL lm.length cL,.slice aP pr.length cP,.slice aV vr.length cV] 27 (0,0)) by rw[hw1];exact X0.out);have l1:=lt_of_block X1.out;clear hw1 hdl
   go_loopw [4] (fun i wr=>∃k:Nat,k≤pr.length∧i=.int .i64 k∧Hid (eV pr k=true)∧Hid (Below W1.heap.size W1 wr)) (fun i _=>pr.length-(intOf i).toNat)
   case atStart=>exact⟨0,Nat.zero_le _,rfl,aa rfl,aa (Below.refl _ _)⟩
   case round =>
    obtain⟨k,hk,rfl,HA,HB⟩:=hrel;obtain⟨w2,rfl⟩:∃x:World,x=wr:=⟨wr,rfl⟩;have B2:=bU B1 HB.out;have X2:=aa (ac HB.out l1 X1.out);have l2:=lt_of_block X2.out;have g2:w2.cell? ⟨w.heap.size,2,none⟩=some (.slice aP pr.length cP):=bu X2.out rfl
    by_cases hlt:k<pr.length
    ·obtain⟨b,off,rfl,hbl,hcc⟩:=RecsAt.at H.out.pr hlt
     have HC:=aa hcc;have e2:=hcc 2 (by omega);have e3:=hcc 3 (by omega);rw[←B2.out.cell hbl] at e2 e3;obtain⟨y,hy⟩:=ag (pr[k]);dsimp only at e2 e3 HC;rw[hy] at e2 e3 HC;simp only[Par.cells,List.getElem?_cons_zero,List.getElem?_cons_succ] at e2 e3;have HSUC:=aa (sG pr k);rw[show pr.getD k r8=y from by rw[←hy];simp[hlt]] at HSUC;have HYS:=aa (HSM.out y (by rw[←hy];exact List.getElem_mem hlt));have HLT:=aa hlt;clear hy hcc;obtain⟨yn,y0,y1,y2⟩:=y;dsimp only at e2 e3 HSUC
     by_cases hge:y1<y2
     ·have hd:decide (y1≥y2)=false:=by simp;omega
      have hd2:=aa (show decide (y1<y2)=true by simpa using hge);clear hge;go_wp2_with fail
      go_quiet (fail)
      go_wp2_with fail;clear hd e2 e3 g2
      go_loopw [5] (fun i wr=>∃j:Nat,j≤k∧i=.int .i64 j∧Hid ((pr.take j).any (nG ⟨yn,y0,y1,y2⟩)=false)∧Hid (Below W1.heap.size W1 wr)) (fun i _=>k-(intOf i).toNat)
      case atStart=>exact⟨0,Nat.zero_le _,rfl,aa rfl,aa (HB.out.trans (aA _ _))⟩
      case round =>
       obtain⟨j,hj,rfl,HO,HB3⟩:=hrel;obtain⟨w3,rfl⟩:∃x:World,x=wr:=⟨wr,rfl⟩;have B3:=bU B1 HB3.out;have X3:=aa (ac HB3.out l1 X1.out);have l3:=lt_of_block X3.out;have g2:w3.cell? ⟨w.heap.size,2,none⟩=some (.slice (some ⟨b,off,none⟩) pr.length cP):=bu X3.out rfl
       by_cases hjk:j<k
       ·have hjl:j<pr.length:=by omega
        have hkl:k<pr.length:=by omega
        obtain⟨b',off',eq',_,hcc'⟩:=RecsAt.at H.out.pr hjl;cases eq';have d0:=HC.out 0 (by omega);have d1:=HC.out 1 (by omega);have d2:=HC.out 2 (by omega);have d3:=HC.out 3 (by omega);have f0:=hcc' 0 (by omega);have f1:=hcc' 1 (by omega);have f2:=hcc' 2 (by omega);have f3:=hcc' 3 (by omega);rw[←B3.out.cell hbl,Nat.add_zero] at d0 f0;rw[←B3.out.cell hbl] at d1 d2 d3 f1 f2 f3;obtain⟨z,hz⟩:=ag (pr[j]);dsimp only at f0 f1 f2 f3;rw[hz] at f0 f1 f2 f3;simp only[Par.cells,List.getElem?_cons_zero,List.getElem?_cons_succ] at d0 d1 d2 d3 f0 f1 f2 f3;have HZS:=aa (HSM.out z (by rw[←hz];exact List.getElem_mem hjl));have HZ:=aa hz;have HCM:=aa (fun W=>common3_any ⟨yn,y0,y1,y2⟩ z W HYS.out HZS.out);have HOV:=aa (overB_common ⟨yn,y0,y1,y2⟩ z HYS.out HZS.out);have HJK:=aa hjk;clear hz hcc';obtain⟨zn9Q,z0,z1,z2⟩:=z;simp only[Par.val] at HCM;dsimp only at f0 f1 f2 f3 HOV;obtain⟨m,hm⟩:=ag (max 0 (min y2 z2-max y1 z1+1));rw[hm] at HCM HOV;clear hm
        by_cases hs:y0=z0
        ·subst hs
         by_cases hm:m>1
         ·have hmd:decide (m>1)=true:=by simpa using hm
          have hmd':decide (1<m)=true:=by simpa using hm
          obtain rfl:false=Q:=by
           rw[←HQ2.out];refine(mh (k:=k+1) (by omega) ?_).symm;rw[HSUC.out,gX (l:=pr.take k) (k:=j) (p:=nG ⟨yn,y0,y1,y2⟩) (by simp;omega) (by simp only[List.getElem_take];rw[HZ.out,HOV.out,hmd];simp)];simp
          clear hm;go_upto_region 14 with fail
          go_still_tail 24,(by kernel_rfl)
          change wpList _ _ _ _ _ w3.drew
          go_wp2_with (go_at_call 235;refine(HCM.out _).mono ?_;rintro e w4 ⟨rfl,hb4⟩);go_ret;exact⟨rfl,bB B3.out.drew hb4⟩
         ·have hmd:decide (m>1)=false:=by simpa using hm
          have hmd':decide (1<m)=false:=by simpa using hm
          have HO2:Hid ((pr.take (j+1)).any (nG ⟨yn,y0,y1,y2⟩)=false):=aa (bR hjl HO.out (by rw[HZ.out,HOV.out,hmd];simp));clear hm;go_upto_region 14 with fail
          go_still_tail 24,(by kernel_rfl)
          change wpList _ _ _ _ _ w3.drew
          go_wp2_with (go_at_call 235;refine(HCM.out _).mono ?_;rintro e w4 ⟨rfl,hb4⟩);go_roundw
          case rel=>exact⟨j+1,HJK.out,by go_num,HO2,aa (bB HB3.out.drew hb4)⟩
          case measure=>have:=HJK.out;simp[intOf];omega
        ·have hsd:(y0==z0)=false:=by simpa using hs
         have HO2:Hid ((pr.take (j+1)).any (nG ⟨yn,y0,y1,y2⟩)=false):=aa (bR hjl HO.out (by rw[HZ.out,HOV.out];simp[hs]));clear hs;go_upto_region 14 with fail
         go_quiet (fail)
         go_wp2_with fail;go_roundw
         case rel=>exact⟨j+1,HJK.out,by go_num,HO2,aa (HB3.out.trans (aA _ _))⟩
         case measure=>have:=HJK.out;simp[intOf];omega
       ·obtain rfl:j=k:=by omega
        have HA2:Hid (eV pr (j+1)=true):=aa (by rw[HSUC.out,HA.out,HO.out,hd2.out];rfl);go_wp2_with fail;go_roundw
        case rel=>exact⟨j+1,HLT.out,by go_num,HA2,HB3⟩
        case measure=>have:=HLT.out;simp[intOf];omega
     ·have hd:decide (y1≥y2)=true:=by simp;omega
      have hd2:decide (y1<y2)=false:=by simpa using hge
      obtain rfl:false=Q:=by rw[←HQ2.out,mh (n:=pr.length) (k:=k+1) (by omega) (by rw[HSUC.out,hd2];simp)]
      clear hge;go_wp2_with fail
      go_quiet (fail)
      go_wp2_with fail;go_ret;exact⟨rfl,B2.out.trans (aA _ _)⟩
    ·obtain rfl:k=pr.length:=by omega
     obtain rfl:true=Q:=by rw[←HQ2.out,HA.out]
     go_wp2_with fail;go_ret;exact⟨rfl,B2.out⟩
end Go.Proofs.YtkhemfnlflbniaaGreatDoor
