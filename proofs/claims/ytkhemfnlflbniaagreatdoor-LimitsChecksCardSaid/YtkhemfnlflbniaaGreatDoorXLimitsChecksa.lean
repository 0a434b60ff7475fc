/- What the law LimitsChecks needs beyond the base: Co1, Co2, Fc, Oa, Co3, Co4, G1, Cf1, G2, G3, G4, G5, Cf2, Cf3, Cf4, G6a, G6b, E1, E3, E45, G7, G8, G9, G10. No conditions beyond those stated. -/
import Derived.Test.YtkhemfnlflbniaaGreatDoorB08
import Derived.Test.YtkhemfnlflbniaaGreatDoorB05
import Derived.Test.YtkhemfnlflbniaaGreatDoorB01
import Derived.Test.YtkhemfnlflbniaaGreatDoorB07
import Derived.Test.YtkhemfnlflbniaaGreatDoorB06
import Derived.Test.YtkhemfnlflbniaaGreatDoorB04
import Derived.Shelf.Small.Bits
import Derived.Shelf.Small.Wraps
import Derived.Shelf.Strconv.Itoa0
import Derived.Shelf.Sort.Plain
import Derived.Shelf.Slices.Turned
import Derived.Ground.Names2Prog
import Derived.Shelf.Slices.CompactI
import Derived.Shelf.Slices.Cells
import Derived.Shelf.Slices.In.SortNone
import Derived.Test.YtkhemfnlflbniaaGreatDoorProg
import Derived.Test.YtkhemfnlflbniaaGreatDoorB03
import Derived.Test.YtkhemfnlflbniaaGreatDoorB02
import Derived.WalkKit
import Derived.Handy
import Derived.RangeFuncRecord
import Derived.Shelf.Abstract
import Derived.Deep.QuietTactic
import Derived.BigQuiet
import Derived.Laws.CopyOwn
import Derived.WalkSmall
import Derived.RangeFuncNested
import Derived.RangeFuncBound
import Derived.RangeFuncCalls
import Derived.RangeFuncLeaves
import Derived.Shelf.RegionOpen
import Derived.OwnWalkIn
import Derived.TacticsInMore
import Derived.LoopNIn
import Derived.LoopIn
import Derived.Maps.AppendAt
import Derived.Deep.Onto
import Derived.OrdersHeld
import Derived.Deep.LoopGhost
import Derived.Deep.WholeRow
import Derived.Deep.OwnRows
import Derived.StillTailTactics
import Derived.Great.Walk
import Derived.Great.BuildSlice
import Derived.WalkMore
import Derived.Deep.MidRow
import Derived.Deep.RegionHeld3
import Derived.Deep.DeepCutAuto
import Derived.Lib.OwnBridge
import Derived.Lib.SliceRun
import Derived.WalkSpells
import Derived.Deep.RegionWith
import Derived.Lib.AppendZerosOnto
import Derived.Deep.CutBlock
import Derived.IntWalk
import Derived.Test.YtkhemfnlflbniaaGreatDoorB10
import Derived.Test.YtkhemfnlflbniaaGreatDoorB09
import Derived.Deep.Cut
import Derived.Laws.Rows
import Derived.Laws.Tables
import Derived.Test.YtkhemfnlflbniaaGreatDoorB12
import Derived.Test.YtkhemfnlflbniaaGreatDoorB11
import Derived.Laws.StructEq
import Derived.OrdersIn
import Derived.RangeFuncBox
import Derived.Test.YtkhemfnlflbniaaGreatDoorB15
import Derived.Test.YtkhemfnlflbniaaGreatDoorB14
import Derived.Test.YtkhemfnlflbniaaGreatDoorB13
set_option maxRecDepth 100000
set_option maxHeartbeats 8000000
namespace Go.Proofs.YtkhemfnlflbniaaGreatDoor
def normR (d:Int):Int:=if d.tmod 360<0 then d.tmod 360+360 else d.tmod 360
theorem normR_eq (d:Int):normR d=cz d:=by
 rw[nt];unfold normR
 have h1:d.tmod 360=if 0≤d then d%360 else -(-d%360):=by
  split
  ·rename_i h;exact Int.tmod_eq_emod_of_nonneg h
  ·rename_i h
   rw[←Int.tmod_eq_emod_of_nonneg (a:=-d) (by omega),Int.neg_tmod,Int.neg_neg]
 rw[h1]
 split<;>split<;>omega
def rootBit (n:Int):Nat→Int→Int
 | 0,r=>r
 | b+1,r=>if r+2^b≤3037000499∧(r+2^b)*(r+2^b)≤n then rootBit n b (r+2^b) else rootBit n b r
theorem rootBit_is {n:Int} (hn:n≤9223372030926249000):∀(b:Nat) (r:Int),0≤r→(r=0∨r*r≤n)→n<(r+2^b)*(r+2^b)→rz n (rootBit n b r)
 | 0,r,h0,h1,h2=>⟨h0,h1,by unfold rootBit;simpa using h2⟩
 | b+1,r,h0,h1,h2=>by
   unfold rootBit;have hp:(0:Int)<2^b:=Int.pow_pos (by omega)
   split
   ·rename_i q
    refine rootBit_is hn b _ (by omega) (.inr q.2) ?_;rw[show r+2^b+2^b=r+2^(b+1) by rw[Int.pow_succ];omega];exact h2
   ·rename_i q
    refine rootBit_is hn b r h0 h1 ?_
    apply Classical.byContradiction
    intro q2;refine q ⟨?_,by omega⟩
    apply Classical.byContradiction
    intro q3;have:(3037000500:Int)*3037000500≤(r+2^b)*(r+2^b):=Int.mul_le_mul (by omega) (by omega) (by omega) (by omega);omega
theorem root_ref {n:Int} (hn:n≤9223372030926249000):(if n<1 then 0 else rootBit n 32 0)=fC n:=by
 refine pn ?_ (nT hn)
 split
 ·exact⟨by omega,.inl rfl,by omega⟩
 ·exact rootBit_is hn 32 0 (by omega) (.inl rfl) (by rw[show(2:Int)^32=4294967296 from by decide];omega)
theorem rootP_nonneg {n:Int} (h:n≤9223372030926249000):0≤fC n:=(nT h).1
theorem rootUp_ref {n:Int} (hn:n≤9223372030926249000):(if 0<n∧fC n*fC n<n then fC n+1 else fC n)=fG n:=by
 unfold fG
 by_cases h:fC n*fC n<n
 ·have h0:0≤fC n*fC n:=Int.mul_nonneg (rootP_nonneg hn) (rootP_nonneg hn)
  rw[if_pos ⟨by omega,h⟩,if_pos h]
 ·rw[if_neg (fun q=>h q.2),if_neg h]
theorem rootUp_nonneg {n:Int} (h:n≤9223372030926249000):0≤fG n:=by
 unfold fG;have:=rootP_nonneg h
 split<;>omega
theorem declGo_app (year:Int) (v:Vrn):∀(l:List Vrn) (r:Option Int),jL year (l++[v]) r=if v.year≤year then some v.east else jL year l r
 | [],_=>rfl
 | u::l,r=>by
   rw[List.cons_append];unfold jL;rw[declGo_app year v l]
def midR (c:Crs) (east:Int):Int:=if 269<normR (c.bearing+east) then normR (c.bearing+east)-360 else normR (c.bearing+east)
theorem mid_ref (c:Crs) (east:Int):midR c east=eH c east:=by
 unfold midR eH;rw[normR_eq,nt,nt]
 split<;>omega
def floorR (a b:Int):Int:=if a<a.tdiv b*b then a.tdiv b-1 else a.tdiv b
theorem floor_ref {a b:Int} (_hb:0<b):floorR a b=cY a b:=by
 unfold floorR cY;have:=Int.mul_tdiv_add_tmod a b;rw[Int.mul_comm] at this
 by_cases h:a<a.tdiv b*b
 ·rw[if_pos h,if_pos (by omega)]
 ·rw[if_neg h,if_neg (by omega)]
def fitR (c:Crs) (east dx:Int):Option (Int×Int) :=
 let lo:=midR c east-c.needle
 let hi:=midR c east+c.needle
 if hi≤0∨180≤lo then none else
 let b1:=if 0<lo then min 100000 (floorR (dx*ju lo) (gJ lo)) else 100000
 let a1:=if hi<180 then max (-100000) (-floorR (-dx*ju hi) (gJ hi)) else -100000
 let room:=floorR (c.far*c.far) 100000000-dx*dx
 if room<0 then none else
 let b2:=min b1 (fC room)
 let a2:=max a1 (-fC room)
 let short:=-floorR (-(c.near)*c.near) 100000000-dx*dx
 let a3:=if hi≤90 then max a2 (fG short) else a2
 let b3:=if 90≤lo then min b2 (-fG short) else b2
 if b3<a3 then none else some (a3,b3)
theorem fit_ref {c:Crs} (hc:c.ok=true) (east dx:Int) (hd0:0<dx) (hd1:dx≤100000):fitR c east dx=vQ c east dx:=by
 have hc2:=hc;rw[Crs.ok_iff] at hc2;unfold fitR vQ;rw[mid_ref];have hm:=wh c east;obtain⟨m,hmm⟩:=ag (eH c east);rw[hmm] at hm ⊢
 by_cases h0:m+c.needle≤0∨180≤m-c.needle
 ·simp only[if_pos h0]
 simp only[if_neg h0];rw[floor_ref (by omega)]
 have e1:(if 0<m-c.needle then min 100000 (floorR (dx*ju (m-c.needle)) (gJ (m-c.needle))) else 100000)=if 0<m-c.needle then min 100000 (cY (dx*ju (m-c.needle)) (gJ (m-c.needle))) else 100000:=by
  split
  ·rename_i h;rw[floor_ref (by have:=sg h (by omega);omega)]
  ·rfl
 have e2:(if m+c.needle<180 then max (-100000) (-floorR (-dx*ju (m+c.needle)) (gJ (m+c.needle))) else -100000)=if m+c.needle<180 then max (-100000) (gu (dx*ju (m+c.needle)) (gJ (m+c.needle))) else -100000:=by
  split
  ·rename_i h
   unfold gu;rw[floor_ref (by have:=sg (by omega) h;omega),Int.neg_mul]
  ·rfl
 rw[e1,e2];obtain⟨rm,hrm⟩:=ag (cY (c.far*c.far) 100000000-dx*dx);rw[hrm]
 by_cases h1:rm<0
 ·rw[if_pos h1,if_pos h1]
 rw[if_neg h1,if_neg h1]
 have hsh:-floorR (-c.near*c.near) 100000000-dx*dx=gu (c.near*c.near) 100000000-dx*dx:=by
  unfold gu;rw[floor_ref (by omega),Int.neg_mul]
 rw[hsh];have hb:=c.len_bd hc
 have hfar:rm≤9223372030926249000:=by
  have q:c.far*c.far≤1070000000*1070000000:=Int.mul_le_mul (by omega) (by omega) (by omega) (by omega);have q0:0≤c.far*c.far:=Int.mul_nonneg (by omega) (by omega);have q1:0≤dx*dx:=Int.mul_nonneg (by omega) (by omega);unfold cY at hrm;rw[Int.tdiv_eq_ediv_of_nonneg q0] at hrm
  split at hrm<;>omega
 have hr0:=rootP_nonneg hfar
 have hnear:gu (c.near*c.near) 100000000-dx*dx≤9223372030926249000:=by
  have q:c.near*c.near≤1070000000*1070000000:=Int.mul_le_mul (by omega) (by omega) (by omega) (by omega);have q0:0≤c.near*c.near:=Int.mul_nonneg (by omega) (by omega);have q1:0≤dx*dx:=Int.mul_nonneg (by omega) (by omega);unfold gu cY;rw[Int.neg_tdiv,Int.tdiv_eq_ediv_of_nonneg q0]
  split<;>omega
 have hu0:=rootUp_nonneg hnear;obtain⟨R,hR⟩:=ag (fC rm);obtain⟨U,hU⟩:=ag (fG (gu (c.near*c.near) 100000000-dx*dx));rw[hR] at hr0 ⊢;rw[hU] at hu0 ⊢;obtain⟨fl,hfl⟩:=ag (cY (dx*ju (m-c.needle)) (gJ (m-c.needle)));obtain⟨ce,hce⟩:=ag (gu (dx*ju (m+c.needle)) (gJ (m+c.needle)))
 have h90:m-c.needle=90→m+c.needle=90→fl=0∧ce=0:=fun p q=>by
  have hs:gJ 90=10000:=by decide +kernel
  have hk:ju 90=0:=by decide +kernel
  rw[p,hs,hk,Int.mul_zero] at hfl;rw[q,hs,hk,Int.mul_zero] at hce;exact⟨by rw[←hfl];decide,by rw[←hce];decide⟩
 rw[hfl,hce]
 have fin:∀a b a' b':Int,(b<a↔b'<a')→(¬b<a→a=a'∧b=b')→(if b<a then(none:Option (Int×Int)) else some (a,b))=if b'<a' then none else some (a',b'):=by
  intro a b a' b' h1 h2
  by_cases q:b<a
  ·rw[if_pos q,if_pos (h1.1 q)]
  ·rw[if_neg q,if_neg (fun z=>q (h1.2 z))]
   obtain⟨rfl,rfl⟩:=h2 q
   rfl
 apply fin
 ·by_cases a1:0<m-c.needle<;>by_cases a2:m+c.needle<180<;>by_cases a3:m+c.needle≤90<;>by_cases a4:90≤m-c.needle<;>simp only[a1,a2,a3,a4,if_true,if_false]<;>(try (have:=h90 (by omega) (by omega)))<;>omega
 ·by_cases a1:0<m-c.needle<;>by_cases a2:m+c.needle<180<;>by_cases a3:m+c.needle≤90<;>by_cases a4:90≤m-c.needle<;>simp only[a1,a2,a3,a4,if_true,if_false]<;>(try (have:=h90 (by omega) (by omega)))<;>omega
end Go.Proofs.YtkhemfnlflbniaaGreatDoor
namespace Go.Proofs.YtkhemfnlflbniaaGreatDoor
open Go Go.RowKit Go.Shelf
def yearTo (l:List Vrn) (k:Nat):Int:=if k=0 then 0 else(l.getD (k-1) ⟨0,0⟩).year
theorem flatMap_len {α:Type} {k:Nat} {f:α→List Value} (hf:∀x,(f x).length=k):∀l:List α,(l.flatMap f).length=l.length*k
 | []=>by simp
 | x::l=>by rw[List.flatMap_cons,List.length_append,hf,flatMap_len hf l,List.length_cons,Nat.succ_mul,Nat.add_comm]
end Go.Proofs.YtkhemfnlflbniaaGreatDoor
namespace Go.Proofs.YtkhemfnlflbniaaGreatDoor
def fitBothR (c:Crs) (east dx:Int):Option (Int×Int):=if dx<0 then(fitR { c with bearing:=normR (c.bearing+180) } east (-dx)).map (fun p=>(-p.2,-p.1)) else fitR c east dx
theorem both_ref {c:Crs} (hc:c.ok=true) (east:Int) {dx:Int} (h0:dx≠0) (h1:-100000≤dx) (h2:dx≤100000):fitBothR c east dx=gD c east dx:=by
 unfold fitBothR gD
 split
 ·have e:({ c with bearing:=normR (c.bearing+180) }:Crs)=c.back:=by unfold Crs.back;rw[normR_eq]
  rw[e,fit_ref (Crs.back_ok hc) east (-dx) (by omega) (by omega)]
 ·exact fit_ref hc east dx (by omega) h2
def tableR (F:Fld) (c:Cll):Bool :=
 if(bZ F c.limit&&aY F c.fr)=false∨bm c.er 0 100000=false then false
 else if c.kind=1 then decide (c.crs=crs0)&&decide (c.other=0)&&decide (c.tt=0)&&bm c.sz 0 100000
 else if c.kind=2 then decide (c.crs=crs0)&&(decide (c.limit<c.other)&&decide (c.other<F.lms.length))&&decide (c.tt=0)&&bm c.sz 0 100000
 else if c.kind=3 then decide (c.other=0)&&decide (c.sz=0)&&decide (c.er=0)&&bm c.tt 0 ((F.sts.length:Int)-1)&&decide (c.tt≠c.fr)
 else if c.kind=4 then decide (c.crs=crs0)&&(decide (c.limit<c.other)&&decide (c.other<F.lms.length))&&decide (c.sz=0)&&decide (c.er=0)&&decide (c.fr<c.tt)&&decide (c.tt<F.sts.length)
 else if c.kind=5 then decide (c.crs=crs0)&&decide (c.other=0)&&bm c.tt 0 ((F.sts.length:Int)-1)&&decide (c.tt≠c.fr)&&bm c.sz (-100000) 100000
 else false
theorem cll_eq {a b:Cll}:a=b↔a.kind=b.kind∧a.limit=b.limit∧a.other=b.other∧a.fr=b.fr∧a.tt=b.tt∧a.sz=b.sz∧a.er=b.er∧a.crs=b.crs:=by
 cases a;cases b;simp
theorem right_ref (F:Fld) (c:Cll):cA F c=(tableR F c&&(if c.kind=3 then c.crs.ok else true)):=by
 unfold cA tableR;rw[Bool.eq_iff_iff];have hcr:c.crs=c.crs:=rfl
 by_cases k1:c.kind=1
 ·simp only[k1,if_true,jQ,bZ,aY,dQ,bm,cll_eq,Bool.and_eq_true,decide_eq_true_eq]
  by_cases q:c.crs=crs0
  ·simp[q];omega
  ·simp[q]
 by_cases k2:c.kind=2
 ·simp only[k2,if_true,jN,bZ,aY,dQ,bm,cll_eq,Bool.and_eq_true]
  by_cases q:c.crs=crs0
  ·simp[q];omega
  ·simp[q]
 by_cases k3:c.kind=3
 ·simp only[k3,if_true,gB,bZ,aY,bm,cll_eq,Bool.and_eq_true]
  cases c.crs.ok
  ·simp
  ·simp;omega
 by_cases k4:c.kind=4
 ·simp only[k4,if_true,jJ,bZ,aY,bm,cll_eq,Bool.and_eq_true]
  by_cases q:c.crs=crs0
  ·simp[q];omega
  ·simp[q]
 by_cases k5:c.kind=5
 ·simp only[k5,if_true,kd,bZ,aY,dQ,bm,cll_eq,Bool.and_eq_true]
  by_cases q:c.crs=crs0
  ·simp[q];omega
  ·simp[q]
 simp[k1,k2,k3,k4,k5]
def declBack (year:Int) (l:List Vrn):Nat→Option Int
 | 0=>none
 | n+1=>if(l.getD n ⟨0,0⟩).year≤year then some (l.getD n ⟨0,0⟩).east else declBack year l n
theorem declBack_eq (year:Int) (l:List Vrn):∀n,n≤l.length→declBack year l n=jL year (l.take n) none
 | 0,_=>by simp[declBack,jL]
 | n+1,h=>by
   have hn:n<l.length:=h
   have e:l.take (n+1)=l.take n++[l.getD n ⟨0,0⟩]:=by
    rw[List.take_add_one,List.getD_eq_getElem?_getD,List.getElem?_eq_getElem hn]
    rfl
   rw[e,declGo_app];unfold declBack;rw[declBack_eq year l n (by omega)]
theorem decl_ref (l:List Vrn) (year:Int):(if bz l≠0 then none else declBack year l l.length)=eN l year:=by
 unfold eN
 split
 ·rfl
 ·rw[declBack_eq year l _ (Nat.le_refl _),List.take_length]
def itvR (l:List Vrn) (c:Crs) (dx:Int):Option (Int×Int)×Int :=
 if bz l≠0 then(none,bz l) else if c.ok=false then(none,1) else match eN l c.year with
  | none=>(none,20)
  | some e=>if dx=0∨bm dx (-100000) 100000=false then(none,1) else(fitBothR c e dx,0)
theorem itv_ref (l:List Vrn) (c:Crs) (dx:Int):itvR l c dx=lD l c dx:=by
 unfold itvR lD
 by_cases h1:bz l≠0
 ·rw[if_pos h1,if_pos h1]
 ·rw[if_neg h1,if_neg h1]
  by_cases h2:c.ok=false
  ·rw[if_pos h2,if_pos h2]
  ·rw[if_neg h2,if_neg h2]
   cases eN l c.year with
   | none=>rfl
   | some e =>
     simp only
     by_cases h3:dx=0∨bm dx (-100000) 100000=false
     ·rw[if_pos h3,if_pos h3]
     ·rw[if_neg h3,if_neg h3]
      have h4:c.ok=true:=by simpa using h2
      have h5:dx≠0∧-100000≤dx∧dx≤100000:=by
       refine⟨fun q=>h3 (.inl q),?_⟩
       have:bm dx (-100000) 100000=true:=by
        cases q:bm dx (-100000) 100000 with
        | true=>rfl
        | false=>exact absurd (.inr q) h3
       unfold bm at this;simpa using this
      rw[both_ref h4 e h5.1 h5.2.1 h5.2.2]
def callR (F:Fld) (c:Cll):Int :=
 if tableR F c=false then 1 else if c.kind≠3 then 0 else if c.crs.ok=false then 1 else
 if(itvR F.vrs c.crs (oX F c)).2≠0 then(itvR F.vrs c.crs (oX F c)).2 else if(itvR F.vrs c.crs (oX F c)).1=none then 5 else 0
theorem call_ref {F:Fld} (hv:bz F.vrs=0) (c:Cll):callR F c=dP F c:=by
 unfold callR dP;rw[right_ref,itv_ref]
 by_cases h1:tableR F c=false
 ·simp[h1]
 ·have h1':tableR F c=true:=by simpa using h1
  by_cases h2:c.kind=3
  ·cases h3:c.crs.ok
   ·simp[h1',h2]
   ·simp only[h1',h2,Bool.and_self,if_true]
    by_cases h4:eN F.vrs c.crs.year=none
    ·have:lD F.vrs c.crs (oX F c)=(none,20):=by
      unfold lD;rw[if_neg (by rw[hv];simp),if_neg (by rw[h3];simp),h4]
     simp[h4,this]
    ·unfold gV
     generalize lD F.vrs c.crs (oX F c)=z
     simp[h4]
  ·simp[h1',h2]
end Go.Proofs.YtkhemfnlflbniaaGreatDoor
namespace Go.Proofs.YtkhemfnlflbniaaGreatDoor
open Go Go.RowKit Go.Shelf Go.Proofs.Tryz
theorem rnorm_any (d:Int) (_h0:-1000000≤d) (_h1:d≤1000000) (w:World):Calls prog 312 #[.int .i64 d] w fun e w'=>e=.returned (.int .i64 (cz d))∧w=w':=by
 rw[←normR_eq];unfold normR;have t1:-360<d.tmod 360∧d.tmod 360<360:=⟨by have:=Int.lt_tmod_of_pos d (b:=360) (by omega);omega,Int.tmod_lt_of_pos d (by omega)⟩
 by_cases hq:d.tmod 360<0
 all_goals
  first|rw[if_pos hq]|rw[if_neg hq]
  go_enter func312,ntmps312;go_wp2_with fail;go_ret;exact⟨rfl,rfl⟩
theorem rsines_any (w:World):Calls prog 350 #[] w fun e w'=>e=.returned (.slice (some ⟨w.heap.size,0,none⟩) 91 91)∧Hid (∀i,w'.cell? ⟨w.heap.size,i,none⟩=ot[i]?)∧Below w.heap.size w w':=by
 obtain⟨A,hA⟩:=ag ((sinT.map (Value.int .i64)).toArray);have hA2:ot=A:=hA;rw[hA2];have hA3:=aa hA;clear hA hA2;go_enter func350,ntmps350;go_wp2_with (refine wpList_buildFlat rfl 52 3 91 _ rfl .i64 sinT underlying52 (by kernel_rfl) (by kernel_rfl) rfl (by omega) (by omega) (by kernel_rfl) ?_;rw[hA3.out]);go_ret;exact⟨rfl,aa (ak (heap_alloc_new _ _)),aD⟩
theorem rsinLow_any (d:Int) (h0:-1000000≤d) (h1:d≤1000000) (hn:cz d≤180) (w:World):Calls prog 335 #[.int .i64 d] w fun e w'=>e=.returned (.int .i64 (mX (cz d)))∧Below w.heap.size w w':=by
 have HN:=aa (fun W=>rnorm_any d h0 h1 W);have hb:=ft d;obtain⟨n,hnn⟩:∃n:Nat,cz d=n:=⟨(cz d).toNat,by omega⟩;rw[hnn] at hb hn HN ⊢;have HS:=aa (fun W=>rsines_any W);obtain⟨b,hb9⟩:=ag w.heap.size
 by_cases h90:(n:Int)≤90
 ·have hg:=sZ n (by omega)
  have hs:mX (n:Int)=sinT.getD n 0:=by unfold mX;rw[if_pos h90];rfl
  rw[hs];obtain⟨v,hv⟩:=ag (sinT.getD n 0);rw[hv] at hg ⊢
  have h90b:decide (90<(n:Int))=false:=by simp;omega
  have h180b:decide (180<(n:Int))=false:=by simp;omega
  have n1:(n:Int)<91:=by omega
  have HG:=aa hg;clear hg hs hv h90 hnn hb hn hb9;go_enter func335,ntmps335;go_wp2_with fail;refine(HN.out _).mono ?_;rintro e w1 ⟨rfl,rfl⟩;go_wp2_with fail;refine(HS.out _).mono ?_;rintro e w1 ⟨rfl,hk,hb1⟩;have kn9Q:=(hk.out n).trans HG.out;clear hk HG;go_wp2_with fail;go_ret;exact⟨rfl,hb1⟩
 ·obtain⟨m,hm⟩:∃m:Nat,180-(n:Int)=m:=⟨180-n,by omega⟩
  have hg:=sZ m (by omega)
  have hs:mX (n:Int)=sinT.getD m 0:=by unfold mX;rw[if_neg h90];congr 1;omega
  rw[hs];obtain⟨v,hv⟩:=ag (sinT.getD m 0);rw[hv] at hg ⊢
  have h90b:decide (90<(n:Int))=true:=by simp;omega
  have h180b:decide (180<(n:Int))=false:=by simp;omega
  have n1:(m:Int)<91:=by omega
  have HG:=aa hg;clear hg hs hv h90 hnn hn hb9;go_enter func335,ntmps335;go_wp2_with fail;refine(HN.out _).mono ?_;rintro e w1 ⟨rfl,rfl⟩;go_wp2_with fail;refine(HS.out _).mono ?_;rintro e w1 ⟨rfl,hk,hb1⟩;have kn9Q:=(hk.out m).trans HG.out;clear hk HG;go_wp2_with fail;go_ret;exact⟨rfl,hb1⟩
theorem rsin_any (d:Int) (h0:-1000000≤d) (h1:d≤1000000) (w:World):Calls prog 335 #[.int .i64 d] w fun e w'=>e=.returned (.int .i64 (gJ d))∧Below w.heap.size w w':=by
 by_cases hn:cz d≤180
 ·have:=rsinLow_any d h0 h1 hn w
  unfold gJ;rw[if_pos hn];exact this
 ·have HN:=aa (fun W=>rnorm_any d h0 h1 W)
  have hb:=ft d;have hsb:=ng d;unfold gJ at hsb ⊢;rw[if_neg hn] at hsb ⊢
  have hnn:cz (cz d-180)=cz d-180:=by rw[nt (cz d-180)];omega
  have HL:=aa (fun W=>rsinLow_any (cz d-180) (by omega) (by omega) (by omega) W);rw[hnn] at HL;clear hnn;obtain⟨n,hnn⟩:=ag (cz d);rw[hnn] at hb hn HN HL hsb ⊢;obtain⟨v,hv⟩:=ag (mX (n-180));rw[hv] at HL hsb ⊢
  have h180b:decide (180<(n:Int))=true:=by simp;omega
  have HS:=aa (fun W=>rsines_any W);clear hv hnn;go_enter func335,ntmps335;go_wp2_with fail;refine(HN.out _).mono ?_;rintro e w1 ⟨rfl,rfl⟩;go_wp2_with fail;refine(HS.out _).mono ?_;rintro e w1 ⟨rfl,hk,hb1⟩;clear hk;go_wp2_with fail;refine(HL.out _).mono ?_;rintro e w2 ⟨rfl,hb2⟩;go_wp2_with fail;go_ret;exact⟨rfl,bB hb1 hb2⟩
theorem rcos_any (d:Int) (h0:-1000000≤d) (h1:d≤1000000) (w:World):Calls prog 334 #[.int .i64 d] w fun e w'=>e=.returned (.int .i64 (ju d))∧Below w.heap.size w w':=by
 have HN:=aa (fun W=>rnorm_any d h0 h1 W);have hb:=ft d;have HS:=aa (fun W=>rsin_any (cz d+90) (by omega) (by omega) W);unfold ju;obtain⟨n,hnn⟩:=ag (cz d);rw[hnn] at hb HN HS ⊢;clear hnn;go_enter func334,ntmps334;go_wp2_with fail;refine(HN.out _).mono ?_;rintro e w1 ⟨rfl,rfl⟩;go_wp2_with fail;refine(HS.out _).mono ?_;rintro e w1 ⟨rfl,hb1⟩;go_wp2_with fail;go_ret;exact⟨rfl,hb1⟩
theorem rfloor_any (a b:Int) (w:World) (ha:-4000000000000000000≤a∧a≤4000000000000000000) (hb0:0<b) (hb:b≤1000000000):Calls prog 333 #[.int .i64 a,.int .i64 b] w fun e w'=>e=.returned (.int .i64 (cY a b))∧w=w':=by
 rw[←floor_ref hb0];unfold floorR;have t1:-b<a.tmod b∧a.tmod b<b:=⟨by have:=Int.lt_tmod_of_pos a hb0;omega,Int.tmod_lt_of_pos a hb0⟩
 have t2:-4000000000000000000≤a.tdiv b∧a.tdiv b≤4000000000000000000:=by
  have e1:=Int.natAbs_tdiv_le_natAbs a b;omega
 have t3:-4000000001000000000≤a.tdiv b*b∧a.tdiv b*b≤4000000001000000000:=by
  have:=Int.mul_tdiv_add_tmod a b;rw[Int.mul_comm] at this;omega
 have hbz:(b==0)=false:=by simp;omega
 have hbz2:b≠0:=by omega
 obtain⟨q,hq⟩:=ag (a.tdiv b);obtain⟨p,hp⟩:=ag (q*b);rw[hq,hp] at t3;rw[hq,hp];rw[hq] at t2;clear t1
 by_cases hc:a<p
 all_goals
  first|rw[if_pos hc]|rw[if_neg hc]
  go_enter func333,ntmps333;go_wp2_with fail;go_ret;exact⟨rfl,rfl⟩
theorem within3_any (n a b:Int) (w:World):Calls prog 165 #[.int .i64 n,.int .i64 a,.int .i64 b] w fun e w'=>e=.returned (.bool (bm n a b))∧w=w':=by
 unfold bm;go_enter func165,ntmps165;go_wp2
 all_goals go_ret
 all_goals refine⟨?_,rfl⟩
 all_goals simp[*]
 all_goals omega
theorem common3_any (p q:Par) (w:World) (hp:p.small) (hq:q.small):Calls prog 235 #[p.val,q.val] w fun e w'=>e=.returned (.int .i64 (max 0 (min p.est q.est-max p.wst q.wst+1)))∧Below w.heap.size w w':=by
 obtain⟨pn9Q,ps,pw9Q,pe⟩:=p;obtain⟨qn,qs9Q,qw9Q,qe⟩:=q;unfold Par.small at hp hq;unfold Par.val
 dsimp only at *
 obtain⟨m,hm⟩:=ag (min pe qe);obtain⟨M,hM⟩:=ag (max pw9Q qw9Q)
 have b1:-1000000≤m∧m≤1000000:=by omega
 have b2:-1000000≤M∧M≤1000000:=by omega
 have w1:IntKind.i64.wrap (m-M)=m-M:=IntWalk.i64_in _ (by omega);have w2:IntKind.i64.wrap (m-M+1)=m-M+1:=IntWalk.i64_in _ (by omega);rw[hm,hM];clear hp hq;go_enter func235,ntmps235;go_wp2_with fail;go_ret;exact⟨rfl,by go_grown⟩
theorem refName_any (s:ByteArray) (w:World) (hs:s.size≤9223372036854775807) :
 Calls prog 163 #[.string s] w fun e w'=>e=.returned (.bool (bI s))∧w=w':=by
 obtain⟨P,hP⟩:=ag (bI s);rw[hP]
 by_cases h1:s.size<1
 ·obtain rfl:false=P:=by rw[←hP];unfold bI;simp;omega
  have d1:decide ((s.size:Int)<1)=true:=by simp;omega
  clear h1 hP;go_enter func163,ntmps163;go_wp2_with fail;go_ret;exact⟨rfl,rfl⟩
 have d1:decide ((s.size:Int)<1)=false:=by simp;omega
 by_cases h2:24<s.size
 ·obtain rfl:false=P:=by rw[←hP];unfold bI;simp;omega
  have d2:decide ((s.size:Int)>24)=true:=by simp;omega
  have d2':decide (24<s.size)=true:=by simp;omega
  clear h1 h2 hP;go_enter func163,ntmps163;go_wp2_with fail;go_ret;exact⟨rfl,rfl⟩
 have d2:decide ((s.size:Int)>24)=false:=by simp;omega
 have d2':decide (24<s.size)=false:=by simp;omega
 have h0:=zK s 0 (by omega)
 have hpos:0<s.size:=by omega
 have HP:Hid ((iU s[0]&&s.data.toList.all dG)=P):=aa (by rw[←hP];unfold bI;rw[h0];simp[show 1≤s.size by omega,show s.size≤24 by omega]);clear hP h0
 by_cases hlow:iU s[0]=true
 rotate_left
 ·obtain rfl:false=P:=by rw[←HP.out];simp[hlow]
  have hb:¬(97≤s[0].toNat∧s[0].toNat≤122):=by rw[←pG];exact hlow
  clear hlow HP
  by_cases g:s[0].toNat<97
  ·have d3:decide ((s[0].toNat:Int)<97)=true:=by simp;omega
   clear hb;go_enter func163,ntmps163;go_wp2_with fail;go_ret;exact⟨rfl,rfl⟩
  ·have d3:decide ((s[0].toNat:Int)<97)=false:=by simp;omega
   have d4:decide ((s[0].toNat:Int)>122)=true:=by simp;omega
   clear hb;go_enter func163,ntmps163;go_wp2_with fail;go_ret;exact⟨rfl,rfl⟩
 have hb:97≤s[0].toNat∧s[0].toNat≤122:=(pG _).1 hlow
 have d3:decide ((s[0].toNat:Int)<97)=false:=by simp;omega
 have d4:decide ((s[0].toNat:Int)>122)=false:=by simp;omega
 have HL:=aa hlow;clear hlow hb;go_enter func163,ntmps163;go_wp2_with fail
 go_loop [3] (fun i=>∃k:Nat,k≤s.size∧i=.int .i64 k∧Hid ((s.data.toList.take k).all dG=true)) (fun i=>s.size-(intOf i).toNat)
 case atStart=>exact⟨0,Nat.zero_le _,rfl,aa rfl⟩
 case round =>
  obtain⟨k,hk,rfl,HA⟩:=hrel;clear d3 d4
  by_cases hlt:k<s.size
  ·have HS:=aa (ua s k hlt)
   have hni:=dM s[k];have HNO:Hid (dG s[k]=false→P=false):=aa (fun hn=>by rw[←HP.out,kL (l:=s.data.toList) (k:=k) (by simpa using hlt) rfl hn,Bool.and_false]);have HYES:Hid (dG s[k]=true→(s.data.toList.take (k+1)).all dG=true):=aa (fun hn=>by rw[HS.out,List.all_append,HA.out];simp[hn])
   by_cases g1:s[k].toNat<97
   ·have f1:decide ((s[k].toNat:Int)<97)=true:=by simp;omega
    by_cases g2:s[k].toNat<48
    ·have f2:decide ((s[k].toNat:Int)<48)=true:=by simp;omega
     by_cases g3:s[k].toNat=45
     ·have fe9Q:((s[k].toNat:Int) != 45)=false:=by simp;omega
      have HN2:=aa (HYES.out (hni.2 (by omega)));have HK:=aa hlt;clear hni HYES HNO g1 g2 g3;go_wp2_with fail;go_round
      case rel=>exact⟨k+1,HK.out,by go_num,HN2⟩
      case measure=>have:=HK.out;simp[intOf];omega
     ·have fe9Q:((s[k].toNat:Int) != 45)=true:=by simp;omega
      obtain rfl:=HNO.out (by rw[←Bool.not_eq_true,hni];omega);clear hni HYES HNO g1 g2 g3;go_wp2_with fail;go_ret;exact⟨rfl,rfl⟩
    ·have f2:decide ((s[k].toNat:Int)<48)=false:=by simp;omega
     by_cases g3:s[k].toNat≤57
     ·have f3:decide ((s[k].toNat:Int)>57)=false:=by simp;omega
      have HN2:=aa (HYES.out (hni.2 (by omega)));have HK:=aa hlt;clear hni HYES HNO g1 g2 g3;go_wp2_with fail;go_round
      case rel=>exact⟨k+1,HK.out,by go_num,HN2⟩
      case measure=>have:=HK.out;simp[intOf];omega
     ·have f3:decide ((s[k].toNat:Int)>57)=true:=by simp;omega
      have fe9Q:((s[k].toNat:Int) != 45)=true:=by simp;omega
      obtain rfl:=HNO.out (by rw[←Bool.not_eq_true,hni];omega);clear hni HYES HNO g1 g2 g3;go_wp2_with fail;go_ret;exact⟨rfl,rfl⟩
   ·have f1:decide ((s[k].toNat:Int)<97)=false:=by simp;omega
    by_cases g2:s[k].toNat≤122
    ·have f2:decide ((s[k].toNat:Int)>122)=false:=by simp;omega
     have HN2:=aa (HYES.out (hni.2 (by omega)));have HK:=aa hlt;clear hni HYES HNO g1 g2;go_wp2_with fail;go_round
     case rel=>exact⟨k+1,HK.out,by go_num,HN2⟩
     case measure=>have:=HK.out;simp[intOf];omega
    ·have f2:decide ((s[k].toNat:Int)>122)=true:=by simp;omega
     have f3:decide ((s[k].toNat:Int)<48)=false:=by simp;omega
     have f4:decide ((s[k].toNat:Int)>57)=true:=by simp;omega
     have fe9Q:((s[k].toNat:Int) != 45)=true:=by simp;omega
     obtain rfl:=HNO.out (by rw[←Bool.not_eq_true,hni];omega);clear hni HYES HNO g1 g2;go_wp2_with fail;go_ret;exact⟨rfl,rfl⟩
  ·have hall:s.data.toList.all dG=true:=by have:=HA.out;rwa [List.take_of_length_le (by simp;omega)] at this
   obtain rfl:true=P:=by rw[←HP.out,hall,HL.out];rfl
   clear hall;go_wp2_with fail;go_ret;exact⟨rfl,rfl⟩
theorem bytes_ne {y x:ByteArray} (e:¬y=x):(y.toList==x.toList)=false:=by
 have h:y.toList≠x.toList:=fun h=>e (by
  rw[ByteArray.toList_eq,ByteArray.toList_eq] at h
  cases y;cases x
  simp only at h
  congr 1
  exact Array.toList_inj.1 h)
 simpa using h
def FirstAt (l:List ByteArray) (x:ByteArray) (q:Nat):Prop:=(∃h:q<l.length,l[q]=x)∧∀j (h:j<l.length),j<q→l[j]≠x
theorem firstAt_lt {l:List ByteArray} {q i:Nat} (hi:i<l.length) (h:FirstAt l l[i] q):(decide ((q:Int)<(i:Int)))=(l.take i).any (fun y=>decide (y=l[i])):=by
 obtain⟨⟨hq,e⟩,hn⟩:=h
 by_cases c:q<i
 ·rw[show decide ((q:Int)<(i:Int))=true by simp;omega]
  symm
  rw[List.any_eq_true];refine⟨l[q],?_,by simpa using e⟩;rw[List.mem_take_iff_getElem];exact⟨q,by omega,rfl⟩
 ·rw[show decide ((q:Int)<(i:Int))=false by simp;omega]
  symm
  rw[List.any_eq_false];intro y hy;rw[List.mem_take_iff_getElem] at hy;obtain⟨j,hj,rfl⟩:=hy;have:=hn j (by omega) (by omega);simpa using this
theorem refplace_any (w:World) (a:Option Addr) (cap:Nat) (l:List ByteArray) (i:Nat) (hi:i<l.length) (hl:l.length≤4000) (h:StrsAt w a l) :
 Calls prog 164 #[.slice a l.length cap,.string l[i]] w fun e w'=>(∃q:Nat,e=.returned (.int .i64 q)∧FirstAt l l[i] q)∧w=w':=by
 have H:=aa h;obtain⟨x,hx⟩:=ag (l[i]);rw[hx];have HX:=aa hx;have HI:=aa hi;clear h hx;go_enter func164,ntmps164;go_wp2_with fail
 go_loop [5] (fun i=>∃k:Nat,k≤l.length∧i=.int .i64 k∧Hid (∀j (h:j<l.length),j<k→l[j]≠x)) (fun i=>l.length-(intOf i).toNat)
 case atStart=>exact⟨0,Nat.zero_le _,rfl,aa (fun j _ h=>by omega)⟩
 case round =>
  obtain⟨k,hk,rfl,HN⟩:=hrel
  by_cases hlt:k<l.length
  ·obtain⟨b,off,rfl,hbl,hc⟩:=StrsAt.cell H.out hlt
   have HK:=aa hlt;have hc':w.cell? ⟨b,off+k,none⟩=some (.string l[k]):=hc;clear hc
   by_cases e:l[k]=x
   ·have hF:=aa (show FirstAt l x k from⟨⟨hlt,e⟩,HN.out⟩)
    rw[e] at hc';clear e;go_wp2_with fail;go_ret;exact⟨⟨k,rfl,hF.out⟩,rfl⟩
   ·have HN2:Hid (∀j (h:j<l.length),j<k+1→l[j]≠x):=aa (fun j hj hjk=>by
     by_cases c:j=k
     ·subst c;exact e
     ·exact HN.out j hj (by omega))
    obtain⟨y,hy⟩:=ag (l[k]);rw[hy] at hc' e;have d1:=bytes_ne e;clear hy e;go_wp2_with fail;go_round
    case rel=>exact⟨k+1,HK.out,by go_num,HN2⟩
    case measure=>have:=HK.out;simp[intOf];omega
  ·exact absurd HX.out (HN.out i HI.out (by have:=HI.out;omega))
theorem refVrns_any (w:World) (a:Option Addr) (cap:Nat) (l:List Vrn) (hl:l.length≤9223372036854775807) (h:VrnsAt w a l) :
 Calls prog 161 #[.slice a l.length cap] w fun e w'=>e=.returned (.int .i64 (bz l))∧Below w.heap.size w w':=by
 obtain⟨P,hP⟩:=ag (bz l);rw[hP];unfold bz at hP
 by_cases h40:40<l.length
 ·obtain rfl:(2:Int)=P:=by rw[if_pos h40] at hP;exact hP
  have hd:decide ((l.length:Int)>40)=true:=by simp;omega
  have hd':decide (40<l.length)=true:=by simp;omega
  clear hP h h40;go_enter func161,ntmps161;go_wp2_with fail;go_ret;exact⟨rfl,Below.refl _ _⟩
 rw[if_neg h40] at hP
 have hd:decide ((l.length:Int)>40)=false:=by simp;omega
 have hd':decide (40<l.length)=false:=by simp;omega
 have hl40:l.length≤40:=by omega
 have HP:=aa hP;have H:=aa h;clear hP h h40;go_enter func161,ntmps161;go_wp2_with fail
 go_loopw [3] (fun i wr=>∃(k:Nat),k≤l.length∧i=.int .i64 k∧Hid (kS 0 l=kS (yearTo l k) (l.drop k))∧Hid (0≤yearTo l k∧(0<k→1≤yearTo l k)∧yearTo l k≤3000)∧Hid (Below w.heap.size w wr)) (fun i _=>l.length-(intOf i).toNat)
 case atStart=>exact⟨0,Nat.zero_le _,rfl,aa rfl,aa ⟨Int.le_refl _,fun h=>by omega,(by decide:(0:Int)≤3000)⟩,aa (Below.refl _ _)⟩
 case round =>
  obtain⟨k,hk,rfl,HV,HY,HB⟩:=hrel;obtain⟨wx,rfl⟩:∃x:World,x=wr:=⟨wr,rfl⟩
  by_cases hlt:k<l.length
  ·obtain⟨b,off,rfl,hbl,hc⟩:=RecsAt.at H.out hlt
   have c0:=hc 0 (by omega);have c1:=hc 1 (by omega);rw[←HB.out.cell hbl,Nat.add_zero] at c0;rw[←HB.out.cell hbl] at c1;have HS:=aa (uH hlt (yearTo l k))
   have hyn:yearTo l (k+1)=l[k].year:=by unfold yearTo;rw[if_neg (by omega),Nat.add_sub_cancel,List.getD_eq_getElem?_getD,List.getElem?_eq_getElem hlt];rfl
   have hpv:∀j,k=j+1→wx.cell? ⟨b,off+j*2,none⟩=some (.int .i64 (yearTo l k)):=fun j e=>by
    subst e;obtain⟨b',off',eq,_,hc'⟩:=RecsAt.at H.out (show j<l.length by omega);cases eq;have q:=hc' 0 (by omega);rw[←HB.out.cell hbl,Nat.add_zero] at q;rw[q];unfold yearTo;rw[if_neg (by omega),Nat.add_sub_cancel,List.getD_eq_getElem?_getD,List.getElem?_eq_getElem (show j<l.length by omega)]
    rfl
   have HPV:=aa hpv;have HY0:Hid (k=0→yearTo l k=0):=aa (fun e=>by subst e;rfl);obtain⟨y0,hy0⟩:=ag (yearTo l k);rw[hy0] at HY0;rw[hy0] at HS HPV HV HY;obtain⟨x,hx⟩:=ag (l[k]);rw[hx] at c0 c1 HS hyn;obtain⟨xy,xe⟩:=x;simp only[Vrn.cells,List.getElem?_cons_zero,List.getElem?_cons_succ] at c0 c1;simp only at HS hyn;have HYN:=aa hyn;have HLT:=aa hlt;have lb:b<wx.heap.size:=Nat.lt_of_lt_of_le hbl HB.out.size;clear hx hc hpv hy0 hyn;have hyb:=HY.out;go_upto_region 7 with fail;obtain⟨X,hX⟩:∃X,X=wx.alloc (.cells #[.int .i64 xy,.int .i64 xe] 253):=⟨_,rfl⟩;rw[←hX]
   have xb:X.heap[wx.heap.size]?=some (.cells #[.int .i64 xy,.int .i64 xe] 253 (0,0)):=by rw[hX];exact heap_alloc_new _ _
   have BX:=aa (show Below wx.heap.size wx X by rw[hX];exact aD);have z0:X.cell? ⟨wx.heap.size,0,none⟩=some (.int .i64 xy):=bu xb rfl;have z1:X.cell? ⟨wx.heap.size,1,none⟩=some (.int .i64 xe):=bu xb rfl;have BW:=bU HB BX.out;clear hX xb c0 c1
   by_cases q1:xy<1
   ·have d1:decide (xy<1)=true:=by simpa using q1
    obtain rfl:(1:Int)=P:=by
     rw[←HP.out,HV.out,HS.out,if_neg];unfold bm;simp only[Bool.and_eq_true,decide_eq_true_eq];omega
    clear q1 hyb
    go_quiet (fail)
    go_wp2_with fail;go_ret;exact⟨rfl,BW.out.trans (aA _ _)⟩
   have d1:decide (xy<1)=false:=by simpa using q1
   by_cases q2:3000<xy
   ·have d2:decide (xy>3000)=true:=by simpa using q2
    have d2':decide (3000<xy)=true:=by simpa using q2
    obtain rfl:(1:Int)=P:=by
     rw[←HP.out,HV.out,HS.out,if_neg];unfold bm;simp only[Bool.and_eq_true,decide_eq_true_eq];omega
    clear q1 q2 hyb
    go_quiet (fail)
    go_wp2_with fail;go_ret;exact⟨rfl,BW.out.trans (aA _ _)⟩
   have d2:decide (xy>3000)=false:=by simpa using q2
   have d2':decide (3000<xy)=false:=by simpa using q2
   by_cases q3:xe < -60
   ·have d3:decide (xe < -60)=true:=by simpa using q3
    obtain rfl:(1:Int)=P:=by
     rw[←HP.out,HV.out,HS.out,if_neg];unfold bm;simp only[Bool.and_eq_true,decide_eq_true_eq];omega
    clear q1 q2 q3 hyb
    go_quiet (fail)
    go_wp2_with fail;go_ret;exact⟨rfl,BW.out.trans (aA _ _)⟩
   have d3:decide (xe < -60)=false:=by simpa using q3
   by_cases q4:60<xe
   ·have d4:decide (xe>60)=true:=by simpa using q4
    have d4':decide (60<xe)=true:=by simpa using q4
    obtain rfl:(1:Int)=P:=by
     rw[←HP.out,HV.out,HS.out,if_neg];unfold bm;simp only[Bool.and_eq_true,decide_eq_true_eq];omega
    clear q1 q2 q3 q4 hyb
    go_quiet (fail)
    go_wp2_with fail;go_ret;exact⟨rfl,BW.out.trans (aA _ _)⟩
   have d4:decide (xe>60)=false:=by simpa using q4
   have d4':decide (60<xe)=false:=by simpa using q4
   rcases Nat.eq_zero_or_pos k with hk0|hk0
   ·subst hk0
    have d5:decide (((0:Nat):Int)>0)=false:=by decide
    have d5':decide (0<(0:Nat))=false:=by decide
    have hy00:y0=0:=HY0.out rfl
    have HV2:Hid (kS 0 l=kS (yearTo l (0+1)) (l.drop (0+1))):=aa (by
     rw[HV.out,HS.out,HYN.out]
     have e1:bm xy (y0+1) 3000=true:=by unfold bm;simp;omega
     have e2:bm xe (-60) 60=true:=by unfold bm;simp;omega
     rw[e1,e2];rfl)
    have HY2:Hid (0≤yearTo l (0+1)∧(0<0+1→1≤yearTo l (0+1))∧yearTo l (0+1)≤3000):=aa (by rw[HYN.out];omega);clear hy00 q1 q2 q3 q4 hyb
    go_quiet (fail)
    go_wp2_with fail;go_roundw
    case rel=>exact⟨0+1,HLT.out,by go_num,HV2,HY2,aa (BW.out.trans (aA _ _))⟩
    case measure=>have:=HLT.out;simp[intOf];omega
   ·obtain⟨j,rfl⟩:∃j,k=j+1:=⟨k-1,by omega⟩
    have d5:decide (((j+1:Nat):Int)>0)=true:=decide_eq_true (by omega);have d5':decide (0<j+1)=true:=decide_eq_true (by omega);have cp:X.cell? ⟨b,off+j*2,none⟩=some (.int .i64 y0):=(BX.out.cell (p:=⟨b,off+j*2,none⟩) lb).trans (HPV.out j rfl)
    have hkj:((j+1:Nat):Int)-1=(j:Int):=by omega
    have hwj:IntKind.i64.wrap (j:Int)=(j:Int):=IntWalk.i64_in _ (by omega)
    have hjl:j<l.length:=by omega
    by_cases q5:xy≤y0
    ·have d6:decide (xy≤y0)=true:=by simpa using q5
     obtain rfl:(1:Int)=P:=by
      rw[←HP.out,HV.out,HS.out,if_neg];unfold bm;simp only[Bool.and_eq_true,decide_eq_true_eq];omega
     clear q1 q2 q3 q4 q5 hyb
     go_quiet (fail)
     go_wp2_with fail;go_ret;exact⟨rfl,BW.out.trans (aA _ _)⟩
    ·have d6:decide (xy≤y0)=false:=by simpa using q5
     have HV2:Hid (kS 0 l=kS (yearTo l ((j+1)+1)) (l.drop ((j+1)+1))):=aa (by
      rw[HV.out,HS.out,HYN.out]
      have e1:bm xy (y0+1) 3000=true:=by unfold bm;simp;omega
      have e2:bm xe (-60) 60=true:=by unfold bm;simp;omega
      rw[e1,e2];rfl)
     have HY2:Hid (0≤yearTo l ((j+1)+1)∧(0<(j+1)+1→1≤yearTo l ((j+1)+1))∧yearTo l ((j+1)+1)≤3000):=aa (by rw[HYN.out];omega);clear q1 q2 q3 q4 q5 hyb
     go_quiet (fail)
     go_wp2_with fail;go_roundw
     case rel=>exact⟨(j+1)+1,HLT.out,by go_num,HV2,HY2,aa (BW.out.trans (aA _ _))⟩
     case measure=>have:=HLT.out;simp[intOf];omega
  ·obtain rfl:k=l.length:=by omega
   obtain rfl:(0:Int)=P:=by rw[←HP.out,HV.out,List.drop_length];rfl
   go_wp2_with fail;go_ret;exact⟨rfl,HB.out⟩
theorem pow_le31 {b:Nat} (h:b≤31):(1:Int)≤2^b∧(2:Int)^b≤2147483648:=by
 have:∀i:Fin 32,(1:Int)≤2^i.val∧(2:Int)^i.val≤2147483648:=by decide +kernel
 exact this ⟨b,by omega⟩
theorem rchain_any (a b:Int) (w:World):Calls prog 309 #[.agg #[.int .i64 a,.int .i64 b]] w fun e w'=>e=.returned (.int .i64 (if(bm a (-500) 500&&bm b 0 200)=true then 0 else 1))∧Below w.heap.size w w':=by
 unfold bm
 by_cases h1:a < -500
 ·rw[if_neg (by simp;omega)]
  go_enter func309,ntmps309;go_wp2_with fail;go_ret;exact⟨rfl,by go_grown⟩
 by_cases h2:500<a
 ·rw[if_neg (by simp;omega)]
  go_enter func309,ntmps309;go_wp2_with fail;go_ret;exact⟨rfl,by go_grown⟩
 by_cases h3:b<0
 ·rw[if_neg (by simp;omega)]
  go_enter func309,ntmps309;go_wp2_with fail;go_ret;exact⟨rfl,by go_grown⟩
 by_cases h4:200<b
 ·rw[if_neg (by simp;omega)]
  go_enter func309,ntmps309;go_wp2_with fail;go_ret;exact⟨rfl,by go_grown⟩
 ·rw[if_pos (by simp;omega)]
  go_enter func309,ntmps309;go_wp2_with fail;go_ret;exact⟨rfl,by go_grown⟩
theorem rcourse_any (c:Crs) (w:World):Calls prog 278 #[c.val] w fun e w'=>e=.returned (.int .i64 (if c.ok=true then 0 else 1))∧Below w.heap.size w w':=by
 have HC:=aa (fun W=>rchain_any c.wear c.slack W);have hok2:=aa (Crs.ok_iff (c:=c));obtain⟨c1,c2,c3,c4,c5,c6⟩:=c;unfold Crs.val Crs.vals
 dsimp only at *
 have bad:¬((0≤c1∧c1≤359)∧(0≤c2∧c2≤30)∧(1≤c3∧c3≤100000)∧(1≤c4∧c4≤3000))→(if(Crs.mk c1 c2 c3 c4 c5 c6).ok=true then(0:Int) else 1)=1:=fun q=>if_neg fun y=>(have z:=hok2.out.1 y;q ⟨z.1,z.2.1,z.2.2.1,z.2.2.2.1⟩)
 have HB:=aa bad;clear bad
 by_cases h1:c1<0
 ·rw[HB.out (by omega)];clear hok2 HC HB
  go_enter func278,ntmps278;go_wp2_with fail;go_ret;exact⟨rfl,by go_grown⟩
 by_cases h2:359<c1
 ·rw[HB.out (by omega)];clear hok2 HC HB
  go_enter func278,ntmps278;go_wp2_with fail;go_ret;exact⟨rfl,by go_grown⟩
 by_cases h3:c2<0
 ·rw[HB.out (by omega)];clear hok2 HC HB
  go_enter func278,ntmps278;go_wp2_with fail;go_ret;exact⟨rfl,by go_grown⟩
 by_cases h4:30<c2
 ·rw[HB.out (by omega)];clear hok2 HC HB
  go_enter func278,ntmps278;go_wp2_with fail;go_ret;exact⟨rfl,by go_grown⟩
 by_cases h5:c3<1
 ·rw[HB.out (by omega)];clear hok2 HC HB
  go_enter func278,ntmps278;go_wp2_with fail;go_ret;exact⟨rfl,by go_grown⟩
 by_cases h6:100000<c3
 ·rw[HB.out (by omega)];clear hok2 HC HB
  go_enter func278,ntmps278;go_wp2_with fail;go_ret;exact⟨rfl,by go_grown⟩
 by_cases h7:c4<1
 ·rw[HB.out (by omega)];clear hok2 HC HB
  go_enter func278,ntmps278;go_wp2_with fail;go_ret;exact⟨rfl,by go_grown⟩
 by_cases h8:3000<c4
 ·rw[HB.out (by omega)];clear hok2 HC HB
  go_enter func278,ntmps278;go_wp2_with fail;go_ret;exact⟨rfl,by go_grown⟩
 have e:(if(Crs.mk c1 c2 c3 c4 c5 c6).ok=true then(0:Int) else 1)=if(bm c5 (-500) 500&&bm c6 0 200)=true then 0 else 1:=by
  by_cases q:(Crs.mk c1 c2 c3 c4 c5 c6).ok=true
  ·have:=hok2.out.1 q
   rw[if_pos q,if_pos (by unfold bm;simp;omega)]
  ·rw[if_neg q]
   have:¬(bm c5 (-500) 500&&bm c6 0 200)=true:=fun z=>q (hok2.out.2 (by unfold bm at z;simp at z;omega))
   rw[if_neg this]
 rw[e];obtain⟨r,hr⟩:∃r:Int,(if(bm c5 (-500) 500&&bm c6 0 200)=true then 0 else 1)=r:=⟨_,rfl⟩;rw[hr] at HC ⊢;clear hr e HB hok2;go_enter func278,ntmps278;go_wp2_with fail;refine(HC.out _).mono ?_;rintro e w1 ⟨rfl,hb1⟩;have hb2:=(aD).trans (hb1.mono (by simp));go_wp2_with fail;go_ret;exact⟨rfl,hb2⟩
theorem rdecl_any (w:World) (a:Option Addr) (cap:Nat) (l:List Vrn) (year:Int) (hl:l.length≤9223372036854775807) (h:VrnsAt w a l) :
 Calls prog 311 #[.slice a l.length cap,.int .i64 year] w fun e w'=>e=.returned (vW (eN l year))∧Below w.heap.size w w':=by
 obtain⟨R,hR⟩:=ag (eN l year);rw[hR];rw[←decl_ref] at hR;have HC:=aa (refVrns_any w a cap l hl h);obtain⟨z,hz⟩:=ag (bz l);rw[hz] at HC hR
 by_cases h0:z=0
 ·subst h0
  rw[if_neg (by omega)] at hR;have HV:=aa hR;have H:=aa h;clear hR hz h;go_enter func311,ntmps311;go_wp2_with (go_at_call 161;refine HC.out.mono ?_;rintro e w1 ⟨rfl,hb1⟩)
  go_loopw [6] (fun j wr=>∃(k:Nat),k≤l.length∧j=.int .i64 ((k:Int)-1)∧Hid (declBack year l k=R)∧Below w.heap.size w wr) (fun j _=>(intOf j+1).toNat)
  case atStart=>exact⟨l.length,Nat.le_refl _,rfl,HV,hb1⟩
  case round =>
   obtain⟨k,hk,rfl,HG,hb⟩:=hrel
   cases k with
   | zero =>
     obtain rfl:none=R:=HG.out;go_wp2_with fail;go_ret2;exact⟨rfl,hb⟩
   | succ k =>
     have e1:(((k+1:Nat):Int)-1)=(k:Int):=by omega
     rw[e1];have hlt:k<l.length:=hk;obtain⟨b,off,rfl,hbl,hc⟩:=RecsAt.at H.out hlt;have c0:=hc 0 (by omega);have c1:=hc 1 (by omega);rw[←hb.cell hbl,Nat.add_zero] at c0;rw[←hb.cell hbl] at c1;have HS:=HG.out;unfold declBack at HS;rw[List.getD_eq_getElem?_getD,List.getElem?_eq_getElem hlt,Option.getD_some] at HS;obtain⟨x,hx⟩:=ag (l[k]);rw[hx] at c0 c1 HS;obtain⟨xy,xe⟩:=x;simp only[Vrn.cells,List.getElem?_cons_zero,List.getElem?_cons_succ] at c0 c1;simp only at HS;clear hx hc HG e1;have B:=aa hb;clear hb
     by_cases hq:xy≤year
     ·rw[if_pos hq] at HS
      subst HS;go_wp2_with fail;go_ret2;exact⟨rfl,B.out⟩
     ·rw[if_neg hq] at HS
      have HS2:=aa HS;clear HS;go_wp2_with fail;go_roundw
      case rel=>exact⟨k,by omega,rfl,HS2,B.out⟩
      case measure=>simp[intOf]
 ·have hzb:(z != 0)=true:=by simpa using h0
  rw[if_pos h0] at hR;subst hR;clear hz h0 h;go_enter func311,ntmps311;go_wp2_with (go_at_call 161;refine HC.out.mono ?_;rintro e w1 ⟨rfl,hb1⟩);go_ret2;exact⟨rfl,hb1⟩
theorem rroot_any (n:Int) (hn:n≤9223372030926249000) (_h0:-9000000000000000000≤n) (w:World):Calls prog 336 #[.int .i64 n] w fun e w'=>e=.returned (.int .i64 (fC n))∧w=w':=by
 rw[←root_ref hn]
 by_cases h1:n<1
 ·rw[if_pos h1]
  go_enter func336,ntmps336;go_wp2_with fail;go_ret;exact⟨rfl,rfl⟩
 rw[if_neg h1];obtain⟨R,hR⟩:=ag (rootBit n 32 0);rw[hR];have HR:=aa hR;clear hR;go_enter func336,ntmps336;go_wp2_with fail
 go_loopw [3,4] (fun x y wr=>∃(b:Nat) (r:Int),b≤32∧x=.int .i64 r∧y=.int .i64 ((b:Int)-1)∧0≤r∧r≤3037000499∧Hid (rootBit n b r=R)∧w=wr) (fun x y _=>(intOf y+1).toNat)
 case atStart=>exact⟨32,0,by omega,rfl,rfl,by omega,by omega,HR,rfl⟩
 case round =>
  obtain⟨b,r,hb,rfl,rfl,r0,r1,HG,rfl⟩:=hrel
  cases b with
  | zero =>
    obtain rfl:r=R:=HG.out;go_wp2_with fail;go_ret;exact⟨rfl,rfl⟩
  | succ b =>
    have e1:(((b+1:Nat):Int)-1)=(b:Int):=by omega
    rw[e1];have hp:=pow_le31 (b:=b) (by omega);have HS:=HG.out;unfold rootBit at HS
    have ht:((b:Int)).toNat=b:=by omega
    obtain⟨p,hpp⟩:∃p:Int,(2:Int)^b=p:=⟨_,rfl⟩;rw[hpp] at hp HS
    have hsh:IntKind.i64.wrap (1*(2:Int)^b)=p:=by rw[hpp,Int.one_mul];exact IntWalk.i64_in _ (by omega)
    have hsh2:IntKind.i64.wrap ((2:Int)^b)=p:=by rw[hpp];exact IntWalk.i64_in _ (by omega)
    clear HG e1 hpp
    by_cases q1:r+p≤3037000499
    ·obtain⟨m,hm⟩:=ag ((r+p)*(r+p))
     have m1:0≤m∧m≤9223372030926249001:=by
      rw[←hm];exact⟨Int.mul_nonneg (by omega) (by omega),Int.mul_le_mul (a:=r+p) (c:=3037000499) (b:=r+p) (d:=3037000499) (by omega) (by omega) (by omega) (by omega)⟩
     rw[hm] at HS
     by_cases q2:m≤n
     ·rw[if_pos ⟨q1,q2⟩] at HS
      have HS2:=aa HS;clear HS;go_wp2_with fail;go_roundw
      case rel=>exact⟨b,r+p,by omega,rfl,rfl,by omega,by omega,HS2,trivial⟩
      case measure=>simp[intOf]
     ·rw[if_neg (fun z=>q2 z.2)] at HS
      have HS2:=aa HS;clear HS;go_wp2_with fail;go_roundw
      case rel=>exact⟨b,r,by omega,rfl,rfl,by omega,by omega,HS2,trivial⟩
      case measure=>simp[intOf]
    ·rw[if_neg (fun z=>q1 z.1)] at HS
     have HS2:=aa HS;clear HS;go_wp2_with fail;go_roundw
     case rel=>exact⟨b,r,by omega,rfl,rfl,by omega,by omega,HS2,trivial⟩
     case measure=>simp[intOf]
theorem rrootUp_any (n:Int) (hn:n≤9223372030926249000) (h0:-9000000000000000000≤n) (w:World):Calls prog 337 #[.int .i64 n] w fun e w'=>e=.returned (.int .i64 (fG n))∧w=w':=by
 have HR:=sr hn;have H:=aa (fun W=>rroot_any n hn h0 W);rw[←rootUp_ref hn];obtain⟨r,hr⟩:=ag (fC n);rw[hr] at HR H ⊢;obtain⟨p,hp⟩:=ag (r*r)
 have p1:0≤p∧p≤9223372030926249001:=by
  rw[←hp];exact⟨Int.mul_nonneg (by omega) (by omega),Int.mul_le_mul (a:=r) (c:=3037000499) (b:=r) (d:=3037000499) (by omega) (by omega) (by omega) (by omega)⟩
 rw[hp];clear hr
 by_cases hq0:0<n
 ·by_cases hq:p<n
  ·rw[if_pos ⟨hq0,hq⟩]
   go_enter func337,ntmps337;go_wp2_with (go_at_call 336;refine(H.out _).mono ?_;rintro e w1 ⟨rfl,rfl⟩);go_ret;exact⟨rfl,rfl⟩
  ·rw[if_neg (fun z=>hq z.2)]
   go_enter func337,ntmps337;go_wp2_with (go_at_call 336;refine(H.out _).mono ?_;rintro e w1 ⟨rfl,rfl⟩);go_ret;exact⟨rfl,rfl⟩
 ·rw[if_neg (fun z=>hq0 z.1)]
  go_enter func337,ntmps337;go_wp2_with (go_at_call 336;refine(H.out _).mono ?_;rintro e w1 ⟨rfl,rfl⟩);go_ret;exact⟨rfl,rfl⟩
theorem rsector_any (c:Crs) (e:Int) (hc:c.ok=true) (he:-60≤e∧e≤60) (w:World) :
 Calls prog 332 #[c.val,.int .i64 e] w fun r w'=>r=.returned (.tuple #[.int .i64 (eH c e-c.needle),.int .i64 (eH c e+c.needle)])∧Below w.heap.size w w':=by
 have hcb:=Crs.ok_iff.1 hc;have HN:=aa (fun W=>rnorm_any (c.bearing+e) (by omega) (by omega) W);have hnb:=ft (c.bearing+e);rw[←mid_ref];unfold midR;rw[normR_eq];obtain⟨v,hv⟩:=ag (cz (c.bearing+e));rw[hv] at HN hnb ⊢;obtain⟨w0,hw0⟩:∃W,W=w.alloc (.cells c.vals 46):=⟨_,rfl⟩;have hb0:=aa (show Below w.heap.size w w0 by rw[hw0];exact aD);have hx0:=aa (show Kb [(w.heap.size,.cells c.vals 46)] w0 by rw[hw0];exact Kb.alloc trivial);obtain⟨c1,c2,c3,c4,c5,c6⟩:=c
 unfold Crs.val Crs.vals at *
 dsimp only at *
 have k0:=ce (i:=0) hx0.out.1 rfl;have k1:=ce (i:=1) hx0.out.1 rfl;clear hc hv
 by_cases hq:269<v
 all_goals
  first|rw[if_pos hq]|rw[if_neg hq]
  go_enter func332,ntmps332;go_upto_region 1 with fail;rw[←hw0];clear hw0;go_wp2_with fail;refine(HN.out _).mono ?_;rintro e w1 ⟨rfl,rfl⟩;go_wp2_with fail
  go_quiet (fail)
  go_wp2_with fail;go_ret2;exact⟨rfl,hb0.out.trans (aA _ _)⟩
def fitL (lo hi dx f2 n2 d2:Int):Option (Int×Int) :=
 if hi≤0∨180≤lo then none else
 let b1:=if 0<lo then min 100000 (cY (dx*ju lo) (gJ lo)) else 100000
 let a1:=if hi<180 then max (-100000) (-cY (-dx*ju hi) (gJ hi)) else -100000
 let room:=cY f2 100000000-d2
 if room<0 then none else
 let b2:=min b1 (fC room)
 let a2:=max a1 (-fC room)
 let short:=-cY n2 100000000-d2
 let a3:=if hi≤90 then max a2 (fG short) else a2
 let b3:=if 90≤lo then min b2 (-fG short) else b2
 if b3<a3 then none else some (a3,b3)
theorem fitR_l {c:Crs} (e dx:Int):fitR c e dx=fitL (eH c e-c.needle) (eH c e+c.needle) dx (c.far*c.far) (-c.near*c.near) (dx*dx):=by
 unfold fitR fitL;rw[mid_ref];simp only[floor_ref (by omega:(0:Int)<100000000)];obtain⟨lo,hlo⟩:=ag (eH c e-c.needle);obtain⟨hi,hhi⟩:=ag (eH c e+c.needle);rw[hlo,hhi]
 by_cases h0:hi≤0∨180≤lo
 ·rw[if_pos h0,if_pos h0]
 rw[if_neg h0,if_neg h0]
 have e1:(if 0<lo then min 100000 (floorR (dx*ju lo) (gJ lo)) else 100000)=if 0<lo then min 100000 (cY (dx*ju lo) (gJ lo)) else 100000:=by
  split
  ·rename_i h;rw[floor_ref (by have:=sg h (by omega);omega)]
  ·rfl
 have e2:(if hi<180 then max (-100000) (-floorR (-dx*ju hi) (gJ hi)) else -100000)=if hi<180 then max (-100000) (-cY (-dx*ju hi) (gJ hi)) else -100000:=by
  split
  ·rename_i h;rw[floor_ref (by have:=sg (by omega) h;omega)]
  ·rfl
 rw[e1,e2]
theorem rinterval_any (c:Crs) (e dx:Int) (hc:c.ok=true) (he:-60≤e∧e≤60) (hdx:1≤dx∧dx≤100000) (w:World) :
 Calls prog 313 #[c.val,.int .i64 e,.int .i64 dx] w fun r w'=>r=.returned (dY (fitR c e dx))∧Below w.heap.size w w':=by
 rw[fitR_l];have hcb:=Crs.ok_iff.1 hc;have hlen:=c.len_bd hc;have hm:=wh c e;have HSE:=aa (fun W=>rsector_any c e hc he W);obtain⟨lo,hlo⟩:=ag (eH c e-c.needle);obtain⟨hi,hhi⟩:=ag (eH c e+c.needle)
 have hlb:-120≤lo∧lo≤269:=by omega
 have hhb:-90≤hi∧hi≤299:=by omega
 rw[hlo,hhi] at HSE ⊢;have f2b:=zm hlen.2.1 hlen.2.2;have n2b:=zm hlen.1.1 hlen.1.2;have d2b:=zm (by omega:0≤dx) hdx.2
 have hng:-c.near*c.near=-(c.near*c.near):=by rw[Int.neg_mul]
 have wfa:IntKind.i64.wrap (c.links*(10000+c.wear+c.slack))=c.far:=IntWalk.i64_in _ (by unfold Crs.far at hlen;omega);have wne:IntKind.i64.wrap (c.links*(10000+c.wear-c.slack))=c.near:=IntWalk.i64_in _ (by unfold Crs.near at hlen;omega);obtain⟨far,hfar⟩:=ag c.far;obtain⟨near,hnear⟩:=ag c.near;rw[hfar] at f2b wfa ⊢;rw[hnear] at n2b wne hng ⊢;obtain⟨f2,hf2⟩:=ag (far*far);obtain⟨n2,hn2⟩:=ag (-near*near);obtain⟨d2,hd2⟩:=ag (dx*dx);rw[hn2] at hng;rw[←Int.neg_neg (near*near),←hng] at n2b;rw[hf2] at f2b;rw[hd2] at d2b;rw[hf2,hn2,hd2]
 have wf2:IntKind.i64.wrap (far*far)=f2:=by rw[hf2];exact IntWalk.i64_in _ (by omega)
 have wd2:IntKind.i64.wrap (dx*dx)=d2:=by rw[hd2];exact IntWalk.i64_in _ (by omega)
 have wn2:IntKind.i64.wrap (-near*near)=n2:=by rw[hn2];exact IntWalk.i64_in _ (by omega)
 have HFF:=aa (fun W=>rfloor_any f2 100000000 W (by omega) (by omega) (by omega));have ffb:=oP (a:=f2) (b:=100000000) (m:=1144900000000000000) (by omega) (by omega);have HFN:=aa (fun W=>rfloor_any n2 100000000 W (by omega) (by omega) (by omega));have ccb:=oP (a:=n2) (b:=100000000) (m:=1144900000000000000) (by omega) (by omega);have HCL:=aa (fun W=>rcos_any lo (by omega) (by omega) W);have HSL:=aa (fun W=>rsin_any lo (by omega) (by omega) W);have HCH:=aa (fun W=>rcos_any hi (by omega) (by omega) W);have HSH:=aa (fun W=>rsin_any hi (by omega) (by omega) W);have clb:=m8 lo;have slb:=ng lo;have chb:=m8 hi;have shb:=ng hi
 have slp:=fun h1 h2=>sg (d:=lo) h1 h2
 have shp:=fun h1 h2=>sg (d:=hi) h1 h2
 unfold fitL;dsimp only;obtain⟨ff,hff⟩:=ag (cY f2 100000000);obtain⟨fn,hfn⟩:=ag (cY n2 100000000);obtain⟨cl,hcl⟩:=ag (ju lo);obtain⟨sl,hsl⟩:=ag (gJ lo);obtain⟨ch,hch⟩:=ag (ju hi);obtain⟨sh,hsh⟩:=ag (gJ hi);rw[hff] at HFF ffb ⊢;rw[hfn] at HFN ccb ⊢;rw[hcl] at HCL clb ⊢;rw[hsl] at HSL slb slp ⊢;rw[hch] at HCH chb ⊢;rw[hsh] at HSH shb shp ⊢;have p1b:=m9 (d:=dx) clb.1 clb.2 (by omega) hdx.2;have p2b:=m9 (d:=dx) (x:=-ch) (by omega) (by omega) (by omega) hdx.2
 have hp2:dx*-ch=-dx*ch:=by rw[Int.mul_neg,Int.neg_mul]
 rw[hp2] at p2b;obtain⟨p1,hp1⟩:=ag (dx*cl);obtain⟨p2,hp22⟩:=ag (-dx*ch);rw[hp1] at p1b ⊢;rw[hp22] at p2b ⊢
 have wp1:IntKind.i64.wrap (dx*cl)=p1:=by rw[hp1];exact IntWalk.i64_in _ (by omega)
 have wp2:IntKind.i64.wrap (-dx*ch)=p2:=by rw[hp22];exact IntWalk.i64_in _ (by omega)
 have HF1:=aa (fun(h1:0<lo) (h2:lo<180) W=>rfloor_any p1 sl W (by omega) (by have:=slp h1 h2;omega) (by omega));have f1b:=oP (a:=p1) (b:=sl) (m:=1000000000) (by omega) (by omega);have HF2:=aa (fun(h1:0<hi) (h2:hi<180) W=>rfloor_any p2 sh W (by omega) (by have:=shp h1 h2;omega) (by omega));have f2bb:=oP (a:=p2) (b:=sh) (m:=1000000000) (by omega) (by omega);obtain⟨f1,hf1⟩:=ag (cY p1 sl);obtain⟨g2,hg2⟩:=ag (cY p2 sh);rw[hf1] at HF1 f1b ⊢;rw[hg2] at HF2 f2bb ⊢;obtain⟨room,hroom⟩:=ag (ff-d2);obtain⟨short,hshort⟩:=ag (-fn-d2)
 have hrb:-2000000000000000000≤room∧room≤2000000000000000000:=by omega
 have hsb:-2000000000000000000≤short∧short≤2000000000000000000:=by omega
 have wro:IntKind.i64.wrap (ff-d2)=room:=by rw[hroom];exact IntWalk.i64_in _ (by omega)
 have wsh:IntKind.i64.wrap (-fn-d2)=short:=by rw[hshort];exact IntWalk.i64_in _ (by omega)
 rw[hroom,hshort];have HRT:=aa (fun W=>rroot_any room (by omega) (by omega) W);have HRU:=aa (fun W=>rrootUp_any short (by omega) (by omega) W);have rb:=sr (n:=room) (by omega)
 have ub9Q:0≤fG short∧fG short≤3037000500:=by
  have:=sr (n:=short) (by omega);unfold fG
  split<;>omega
 obtain⟨rt,hrt⟩:=ag (fC room);obtain⟨ru9Q,hru⟩:=ag (fG short);rw[hrt] at HRT rb ⊢;rw[hru] at HRU ub9Q ⊢;obtain⟨b1,hb1⟩:=ag (if 0<lo then min 100000 f1 else(100000:Int));obtain⟨a1,ha1⟩:=ag (if hi<180 then max (-100000) (-g2) else(-100000:Int));rw[hb1,ha1]
 have b1b:-2000000000≤b1∧b1≤100000:=by rw[←hb1];split<;>omega
 have a1b:-100000≤a1∧a1≤2000000000:=by rw[←ha1];split<;>omega
 obtain⟨b2,hb2⟩:=ag (min b1 rt);obtain⟨a2,ha2⟩:=ag (max a1 (-rt));rw[hb2,ha2]
 have b2b:-2000000000≤b2∧b2≤100000:=by omega
 have a2b:-3100000000≤a2∧a2≤2000000000:=by omega
 obtain⟨a3,ha3⟩:=ag (if hi≤90 then max a2 ru9Q else a2);obtain⟨b3,hb3⟩:=ag (if 90≤lo then min b2 (-ru9Q) else b2);rw[ha3,hb3];obtain⟨R,hR⟩:∃R:Option (Int×Int),(if hi≤0∨180≤lo then none else if room<0 then none else if b3<a3 then none else some (a3,b3))=R:=⟨_,rfl⟩;rw[hR];have HB1:=aa hb1;have HA1:=aa ha1;have HB2:=aa hb2;have HA2:=aa ha2;have HA3:=aa ha3;have HB3:=aa hb3;obtain⟨w0,hw0⟩:∃W,W=w.alloc (.cells c.vals 46):=⟨_,rfl⟩;have B0:=aa (show Below w.heap.size w w0 by rw[hw0];exact aD);have X0:=aa (show Kb [(w.heap.size,.cells c.vals 46)] w0 by rw[hw0];exact Kb.alloc trivial);obtain⟨c1,c2,c3,c4,c5,c6⟩:=c
 unfold Crs.val Crs.vals at *
 dsimp only at *
 have wwa:IntKind.i64.wrap (10000+c5)=10000+c5:=IntWalk.i64_in _ (by omega);have wwb:IntKind.i64.wrap (10000+c5+c6)=10000+c5+c6:=IntWalk.i64_in _ (by omega);have wwc:IntKind.i64.wrap (10000+c5-c6)=10000+c5-c6:=IntWalk.i64_in _ (by omega);have k0:=ak X0.out.1;have HCB:=aa hcb;have wng:IntKind.i64.wrap (-near)=-near:=IntWalk.i64_in _ (by omega);have wfn:IntKind.i64.wrap (-fn)=-fn:=IntWalk.i64_in _ (by omega);clear hc he hm hlo hhi hlen f2b n2b d2b hng hfar hnear hf2 hn2 hd2 ffb ccb clb slb chb shb slp shp hff hfn hcl hsl hch hsh hp2 hp1 hp22 p1b p2b hf1 hg2 hroom hshort hrt hru hb1 ha1 hb2 ha2 ha3 hb3 hcb
 by_cases hA:hi≤0∨180≤lo
 ·rw[if_pos hA] at hR
  subst hR
  by_cases hA1:hi≤0
  ·clear hA
   go_enter func313,ntmps313;go_upto_region 1 with fail;rw[←hw0];clear hw0;go_wp2_with (go_at_call 332;refine(HSE.out _).mono ?_;rintro e w1 ⟨rfl,hs1⟩);refine bodyPost_ret (v:=dY none) (by simp[results,results313,go_sem,dY]) rfl ⟨rfl,bB B0.out hs1⟩
  ·have hA2:180≤lo:=by omega
   clear hA;go_enter func313,ntmps313;go_upto_region 1 with fail;rw[←hw0];clear hw0;go_wp2_with (go_at_call 332;refine(HSE.out _).mono ?_;rintro e w1 ⟨rfl,hs1⟩);refine bodyPost_ret (v:=dY none) (by simp[results,results313,go_sem,dY]) rfl ⟨rfl,bB B0.out hs1⟩
 rw[if_neg hA] at hR;have HR:=aa hR
 have hA1:¬hi≤0:=by omega
 have hA2:¬180≤lo:=by omega
 clear hA hR;go_enter func313,ntmps313;go_upto_region 1 with fail;rw[←hw0];clear hw0 k0;have k0:=ak X0.out.1;go_upto_region 2 with (go_at_call 332;refine(HSE.out _).mono ?_;rintro e w1 ⟨rfl,hs1⟩);have B1:=bU B0 hs1;have X1:=aa (X0.out.next hs1);clear hs1 B0 X0 k0 HSE;go_upto_if 30 with fail
 go_cut [12] (fun t wx=>t=.int .i64 b1∧Hid (Below w1.heap.size w1 wx))
 case first =>
  have hb1:=HB1.out;clear HB1
  by_cases q:0<lo
  ·rw[if_pos q] at hb1
   have HF:=aa (HF1.out q (by omega));go_wp2_with fail;refine(HCL.out _).mono ?_;rintro e w2 ⟨rfl,h2⟩;go_wp2_with fail;refine(HSL.out _).mono ?_;rintro e w3 ⟨rfl,h3⟩;go_wp2_with fail;refine(HF.out _).mono ?_;rintro e w4 ⟨rfl,rfl⟩;go_wp2_with fail;go_meet;exact⟨rfl,aa (bB h2 h3)⟩
  ·rw[if_neg q] at hb1
   subst hb1;go_wp2_with fail;go_meet;exact⟨rfl,aa (Below.refl _ _)⟩
 case rest =>
 obtain⟨rfl,HBa⟩:=hcut;obtain⟨w2,rfl⟩:∃z:World,z=wc:=⟨wc,rfl⟩;have B2:=bU B1 HBa.out;have X2:=aa (X1.out.next HBa.out);clear HBa B1 X1 HB1 HF1 HCL HSL;go_upto_if 41 with fail
 go_cut [11] (fun t wx=>t=.int .i64 a1∧Hid (Below w2.heap.size w2 wx))
 case first =>
  have ha1:=HA1.out;clear HA1
  by_cases q:hi<180
  ·rw[if_pos q] at ha1
   have HF:=aa (HF2.out (by omega) q);go_wp2_with fail;refine(HCH.out _).mono ?_;rintro e w3 ⟨rfl,h2⟩;go_wp2_with fail;refine(HSH.out _).mono ?_;rintro e w4 ⟨rfl,h3⟩;go_wp2_with fail;refine(HF.out _).mono ?_;rintro e w5 ⟨rfl,rfl⟩;go_wp2_with fail;go_meet;exact⟨rfl,aa (bB h2 h3)⟩
  ·rw[if_neg q] at ha1
   subst ha1;go_wp2_with fail;go_meet;exact⟨rfl,aa (Below.refl _ _)⟩
 case rest =>
 obtain⟨rfl,HBa⟩:=hcut;obtain⟨w3,rfl⟩:∃z:World,z=wc:=⟨wc,rfl⟩;have B3:=bU B2 HBa.out;have X3:=aa (X2.out.next HBa.out);clear HBa B2 X2 HA1 HF2 HCH HSH;have k0:=ak X3.out.1;have hb2:=HB2.out;have ha2:=HA2.out
 by_cases hro:room<0
 ·have hR:=HR.out
  rw[if_pos hro] at hR;subst hR;clear hb2 ha2 HR;go_upto_region 12 with (go_at_call 333;refine(HFF.out _).mono ?_;rintro e w4 ⟨rfl,rfl⟩);go_wp2_with fail;refine bodyPost_ret (v:=dY none) (by simp[results,results313,go_sem,dY]) rfl ⟨rfl,B3.out⟩
 have hR:=HR.out;rw[if_neg hro] at hR;have HR2:=aa hR;clear HR hR;go_upto_region 12 with (go_at_call 333;refine(HFF.out _).mono ?_;rintro e w4 ⟨rfl,rfl⟩);go_upto_region 16 with (go_at_call 336;refine(HRT.out _).mono ?_;rintro e w4 ⟨rfl,rfl⟩);go_upto_region 18 with (go_at_call 333;refine(HFN.out _).mono ?_;rintro e w4 ⟨rfl,rfl⟩);go_upto_if 105 with fail
 go_cut [11] (fun t wx=>t=.int .i64 a3∧wx=w3)
 case first =>
  have ha3:=HA3.out
  by_cases q:hi≤90
  ·rw[if_pos q] at ha3
   go_wp2_with fail;refine(HRU.out _).mono ?_;rintro e w4 ⟨rfl,rfl⟩;go_wp2_with fail;go_meet;exact⟨rfl,rfl⟩
  ·rw[if_neg q] at ha3
   clear HA3;subst ha3;go_wp2_with fail;go_meet;exact⟨rfl,rfl⟩
 case rest =>
 obtain⟨rfl,rfl⟩:=hcut;obtain⟨w3,rfl⟩:∃z:World,z=wc:=⟨wc,rfl⟩;go_upto_if 111 with fail
 go_cut [12] (fun t wx=>t=.int .i64 b3∧wx=w3)
 case first =>
  have hb3:=HB3.out
  by_cases q:90≤lo
  ·rw[if_pos q] at hb3
   go_wp2_with fail;refine(HRU.out _).mono ?_;rintro e w4 ⟨rfl,rfl⟩;go_wp2_with fail;go_meet;exact⟨rfl,rfl⟩
  ·rw[if_neg q] at hb3
   clear HB3;subst hb3;go_wp2_with fail;go_meet;exact⟨rfl,rfl⟩
 case rest =>
 obtain⟨rfl,rfl⟩:=hcut;obtain⟨w3,rfl⟩:∃z:World,z=wc:=⟨wc,rfl⟩
 by_cases hz:b3<a3
 ·have hR:=HR2.out
  rw[if_pos hz] at hR;subst hR;clear HR2;go_wp2_with fail;refine bodyPost_ret (v:=dY none) (by simp[results,results313,go_sem,dY]) rfl ⟨rfl,B3.out⟩
 ·have hR:=HR2.out
  rw[if_neg hz] at hR;subst hR;clear HR2;go_wp2_with fail;refine bodyPost_ret (v:=dY (some (a3,b3))) (by simp[results,results313,go_sem,dY]) rfl ⟨rfl,B3.out⟩
theorem rint_any (c:Crs) (e dx:Int) (hc:c.ok=true) (he:-60≤e∧e≤60) (hdx:1≤dx∧dx≤100000) (w:World) :
 Calls prog 313 #[c.val,.int .i64 e,.int .i64 dx] w fun r w'=>r=.returned (dY (vQ c e dx))∧Below w.heap.size w w':=by
 rw[←fit_ref hc e dx (by omega) hdx.2];exact rinterval_any c e dx hc he hdx w
theorem rboth_any (c:Crs) (e dx:Int) (hc:c.ok=true) (he:-60≤e∧e≤60) (hx:dx≠0∧-100000≤dx∧dx≤100000) (w:World) :
 Calls prog 280 #[c.val,.int .i64 e,.int .i64 dx] w fun r w'=>r=.returned (dY (gD c e dx))∧Below w.heap.size w w':=by
 unfold gD;have hcb:=Crs.ok_iff.1 hc;have hcb1:=hcb.1;obtain⟨w0,hw0⟩:∃W,W=w.alloc (.cells c.vals 46):=⟨_,rfl⟩;have B0:=aa (show Below w.heap.size w w0 by rw[hw0];exact aD);have X0:=aa (show Kb [(w.heap.size,.cells c.vals 46)] w0 by rw[hw0];exact Kb.alloc trivial)
 by_cases hd:dx<0
 ·rw[if_pos hd]
  have HN:=aa (fun W=>rnorm_any (c.bearing+180) (by omega) (by omega) W);have HI:=aa (fun W=>rint_any c.back e (-dx) (Crs.back_ok hc) he (by omega) W);have HP:=aa (fun p (q:vQ c.back e (-dx)=some p)=>qw (a:=p.1) (b:=p.2) q);unfold Crs.back at HI HP ⊢;obtain⟨v,hv⟩:=ag (cz (c.bearing+180));rw[hv] at HN HI HP ⊢;obtain⟨c1,c2,c3,c4,c5,c6⟩:=c
  unfold Crs.val Crs.vals at *
  dsimp only at *
  obtain⟨R,hR⟩:=ag (vQ (Crs.mk v c2 c3 c4 c5 c6) e (-dx));rw[hR] at HI HP ⊢;have XS:=aa (X0.out.set (i:=0) (by simp) (.int .i64 v));simp only[List.setIfInBounds_toArray,List.set_cons_zero] at XS;have k0:=ak X0.out.1;have f0:=cf (i:=0) X0.out.1;clear hR hc he hv hcb;go_enter func280,ntmps280;go_upto_region 1 with fail;rw[←hw0];clear hw0;go_upto_region 3 with (go_at_call 312;refine(HN.out _).mono ?_;rintro e w1 ⟨rfl,rfl⟩);obtain⟨w1,hw1⟩:∃W,W=w0.setCell ⟨w.heap.size,0,none⟩ (.int .i64 v):=⟨_,rfl⟩;have B1:=aa (show Below w.heap.size w w1 by rw[hw1];exact B0.out.setCell (by dsimp only;omega) _);rw[←hw1] at XS ⊢;clear hw1 k0 f0 X0 B0;have k0:=ak XS.out.1;go_wp2_with fail;refine(HI.out _).mono ?_;rintro e w2 ⟨rfl,hb2⟩;have B2:=bU B1 hb2;clear hb2 k0 XS B1 HI
  cases R with
  | none =>
    unfold dY;go_wp2_with fail;refine bodyPost_ret (v:=dY none) (by simp[results,results280,go_sem,dY]) rfl ⟨rfl,B2.out⟩
  | some p =>
    obtain⟨p1,p2⟩:=p;have hp:=HP.out _ rfl;dsimp only at hp;unfold dY;dsimp only[Option.map_some];go_wp2_with fail;refine bodyPost_ret (v:=dY (some (-p2,-p1))) (by simp[results,results280,go_sem,dY]) rfl ⟨rfl,B2.out⟩
 ·rw[if_neg hd]
  have HI:=aa (fun W=>rint_any c e dx hc he (by omega) W);obtain⟨R,hR⟩:=ag (vQ c e dx);rw[hR] at HI ⊢;obtain⟨c1,c2,c3,c4,c5,c6⟩:=c
  unfold Crs.val Crs.vals at *
  dsimp only at *
  have k0:=ak X0.out.1;clear hR hc he hcb;go_enter func280,ntmps280;go_upto_region 1 with fail;rw[←hw0];clear hw0;go_wp2_with fail;refine(HI.out _).mono ?_;rintro e w2 ⟨rfl,hb2⟩;have B2:=bU B0 hb2;clear hb2 k0 X0 B0 HI
  cases R with
  | none =>
    unfold dY;go_wp2_with fail;refine bodyPost_ret (v:=dY none) (by simp[results,results280,go_sem,dY]) rfl ⟨rfl,B2.out⟩
  | some p =>
    obtain⟨p1,p2⟩:=p;unfold dY;go_wp2_with fail;refine bodyPost_ret (v:=dY (some (p1,p2))) (by simp[results,results280,go_sem,dY]) rfl ⟨rfl,B2.out⟩
theorem rSector_any (w:World) (a:Option Addr) (cap:Nat) (l:List Vrn) (c:Crs) (hl:l.length≤9223372036854775807) (h:VrnsAt w a l) :
 Calls prog 310 #[.slice a l.length cap,c.val] w fun r w'=>(∃p q,r=.returned (.tuple #[.int .i64 p,.int .i64 q,.int .i64 (eW l c)]))∧Below w.heap.size w w':=by
 obtain⟨w0,hw0⟩:∃W,W=w.alloc (.cells c.vals 46):=⟨_,rfl⟩;have J0:=aa (show VC w a l w.heap.size c w0 by rw[hw0];exact yU h c);have HV:=aa (fun W (hW:VrnsAt W a l)=>refVrns_any W a cap l hl hW);have HC:=aa (fun W=>rcourse_any c W);have HD:=aa (fun W (hW:VrnsAt W a l)=>rdecl_any W a cap l c.year hl hW);have HS:=aa (fun(hc:c.ok=true) e (he:eN l c.year=some e) W=>rsector_any c e hc (Ai he) W);unfold eW;obtain⟨cv9Q,hcv⟩:=ag (bz l);obtain⟨D,hD⟩:=ag (eN l c.year);rw[hcv] at HV ⊢;rw[hD] at HD HS ⊢;obtain⟨ok,hok⟩:=ag c.ok;rw[hok] at HC HS ⊢;obtain⟨R,hR⟩:∃R:Int,(if cv9Q≠0 then cv9Q else if ok=false then 1 else if D=none then 20 else 0)=R:=⟨_,rfl⟩;rw[hR];obtain⟨c1,c2,c3,c4,c5,c6⟩:=c
 unfold Crs.val Crs.vals at *
 dsimp only at *
 have k0:=ak (show w0.heap[w.heap.size]?=some (.cells #[.int .i64 c1,.int .i64 c2,.int .i64 c3,.int .i64 c4,.int .i64 c5,.int .i64 c6] 46 (0,0)) from J0.out.k);have hv0:=J0.out.v;clear hcv hD hok h
 by_cases h1:cv9Q≠0
 ·rw[if_pos h1] at hR
  subst hR
  have h1b:(cv9Q==0)=false:=by simpa using h1
  have h1c:(cv9Q != 0)=true:=by simpa using h1
  clear h1;go_enter func310,ntmps310;go_upto_region 1 with fail;rw[←hw0];clear hw0;go_wp2_with (go_at_call 161;refine(HV.out _ hv0).mono ?_;rintro e w1 ⟨rfl,hb1⟩);refine bodyPost_ret (v:=.tuple #[.int .i64 0,.int .i64 0,.int .i64 cv9Q]) (by simp[results,results310,go_sem]) rfl ⟨⟨_,_,rfl⟩,bB J0.out.b hb1⟩
 obtain rfl:cv9Q=0:=by omega
 rw[if_neg h1] at hR;have HR:=aa hR;clear h1 hR;go_enter func310,ntmps310;go_upto_region 1 with fail;rw[←hw0];clear hw0;go_wp2_with fail;refine(HV.out _ hv0).mono ?_;rintro e w1 ⟨rfl,hb1⟩;have J1:=aa (J0.out.next hb1);have k1:=ak (show w1.heap[w.heap.size]?=some (.cells #[.int .i64 c1,.int .i64 c2,.int .i64 c3,.int .i64 c4,.int .i64 c5,.int .i64 c6] 46 (0,0)) from J1.out.k);clear hb1 k0 hv0 J0 HV;go_wp2_with fail;refine(HC.out _).mono ?_;rintro e w2 ⟨rfl,hb2⟩;have J2:=aa (J1.out.next hb2);have k2:=ak (show w2.heap[w.heap.size]?=some (.cells #[.int .i64 c1,.int .i64 c2,.int .i64 c3,.int .i64 c4,.int .i64 c5,.int .i64 c6] 46 (0,0)) from J2.out.k);clear hb2 k1 J1 HC;cases ok
 ·obtain rfl:1=R:=by have:=HR.out;rwa [if_pos rfl] at this
  simp only[reduceCtorEq,↓reduceIte];go_wp2_with fail;refine bodyPost_ret (v:=.tuple #[.int .i64 0,.int .i64 0,.int .i64 1]) (by simp[results,results310,go_sem]) rfl ⟨⟨_,_,rfl⟩,J2.out.b⟩
 have hR:=HR.out;rw[if_neg (by simp)] at hR;have HR2:=aa hR;clear HR hR;simp only[↓reduceIte];go_wp2_with fail;refine(HD.out _ J2.out.v).mono ?_;rintro e w3 ⟨rfl,hb3⟩;have J3:=aa (J2.out.next hb3);have k3:=ak (show w3.heap[w.heap.size]?=some (.cells #[.int .i64 c1,.int .i64 c2,.int .i64 c3,.int .i64 c4,.int .i64 c5,.int .i64 c6] 46 (0,0)) from J3.out.k);clear hb3 k2 J2 HD
 cases D with
 | none =>
   obtain rfl:20=R:=by have:=HR2.out;rwa [if_pos rfl] at this
   unfold vW;go_wp2_with fail;refine bodyPost_ret (v:=.tuple #[.int .i64 0,.int .i64 0,.int .i64 20]) (by simp[results,results310,go_sem]) rfl ⟨⟨_,_,rfl⟩,J3.out.b⟩
 | some e =>
   have HS2:=aa (HS.out trivial e rfl);clear HS
   obtain rfl:0=R:=by have:=HR2.out;rwa [if_neg (by simp)] at this
   unfold vW;go_wp2_with fail;refine(HS2.out _).mono ?_;rintro e w4 ⟨rfl,hb4⟩;have J4:=aa (J3.out.next hb4);clear hb4 k3 J3 HS2;go_wp2_with fail;refine bodyPost_ret (v:=.tuple #[.int .i64 _,.int .i64 _,.int .i64 0]) (by simp[results,results310,go_sem];exact⟨rfl,rfl⟩) rfl ⟨⟨_,_,rfl⟩,J4.out.b⟩
def openedE (l:List Vrn) (c:Crs) (dx:Int):Int:=if eW l c≠0 then eW l c else if dx=0∨bm dx (-100000) 100000=false then 1 else 0
theorem ropened_any (w:World) (a:Option Addr) (cap:Nat) (l:List Vrn) (c:Crs) (dx:Int) (hl:l.length≤9223372036854775807) (h:VrnsAt w a l) :
 Calls prog 279 #[.slice a l.length cap,c.val,.int .i64 dx,.int .i64 0] w fun r w'=>r=.returned (.tuple #[.int .i64 (if openedE l c dx=0 then(eN l c.year).getD 0 else 0),.int .i64 (openedE l c dx)])∧Below w.heap.size w w':=by
 obtain⟨w0,hw0⟩:∃W,W=w.alloc (.cells c.vals 46):=⟨_,rfl⟩;have J0:=aa (show VC w a l w.heap.size c w0 by rw[hw0];exact yU h c);have HS:=aa (fun W (hW:VrnsAt W a l)=>rSector_any W a cap l c hl hW);have HD:=aa (fun W (hW:VrnsAt W a l)=>rdecl_any W a cap l c.year hl hW);have HK:=aa (fun(q:eW l c=0)=>(A7 dx q).2);unfold openedE;obtain⟨cv9Q,hcv⟩:=ag (eW l c);obtain⟨D,hD⟩:=ag (eN l c.year);rw[hcv] at HS HK ⊢;rw[hD] at HD HK ⊢;obtain⟨c1,c2,c3,c4,c5,c6⟩:=c
 unfold Crs.val Crs.vals at *
 dsimp only at *
 have k0:=ak (show w0.heap[w.heap.size]?=some (.cells #[.int .i64 c1,.int .i64 c2,.int .i64 c3,.int .i64 c4,.int .i64 c5,.int .i64 c6] 46 (0,0)) from J0.out.k);have hv0:=J0.out.v;clear hcv hD h
 by_cases h1:cv9Q≠0
 ·simp only[if_pos h1,if_neg h1]
  have h1c:(cv9Q != 0)=true:=by simpa using h1
  clear h1 HK;go_enter func279,ntmps279;go_upto_region 1 with fail;rw[←hw0];clear hw0;go_wp2_with (go_at_call 310;refine(HS.out _ hv0).mono ?_;rintro e w1 ⟨⟨p,q,rfl⟩,hb1⟩);refine bodyPost_ret (v:=.tuple #[.int .i64 0,.int .i64 cv9Q]) (by simp[results,results279,go_sem]) rfl ⟨rfl,bB J0.out.b hb1⟩
 obtain rfl:cv9Q=0:=by omega
 obtain⟨e,he,-⟩:=HK.out rfl;have he2:D=some e:=he;subst he2;simp only[if_neg h1,Option.getD_some];clear h1 HK he;unfold bm
 by_cases h2:dx=0∨(decide (-100000≤dx)&&decide (dx≤100000))=false
 ·simp only[if_pos h2]
  have hcs:dx=0∨(¬dx=0∧dx < -100000)∨(¬dx=0∧¬dx < -100000∧100000<dx):=by
   simp at h2;omega
  clear h2
  rcases hcs with rfl|⟨q1,q2⟩|⟨q1,q2,q3⟩
  all_goals
   go_enter func279,ntmps279;go_upto_region 1 with fail;rw[←hw0];clear hw0;go_wp2_with (go_at_call 310;refine(HS.out _ hv0).mono ?_;rintro e w1 ⟨⟨p,q,rfl⟩,hb1⟩);refine bodyPost_ret (v:=.tuple #[.int .i64 0,.int .i64 1]) (by simp[results,results279,go_sem]) rfl ⟨rfl,bB J0.out.b hb1⟩
 ·simp only[if_neg h2]
  have q1:(dx==0)=false:=by simpa using fun z=>h2 (.inl z)
  have q2:¬dx < -100000:=fun z=>h2 (.inr (by simp;omega))
  have q3:¬100000<dx:=fun z=>h2 (.inr (by simp;omega))
  clear h2;go_enter func279,ntmps279;go_upto_region 1 with fail;rw[←hw0];clear hw0;go_upto_region 6 with (go_at_call 310;refine(HS.out _ hv0).mono ?_;rintro e w1 ⟨⟨p,q,rfl⟩,hb1⟩);have J1:=aa (J0.out.next hb1);have k1:=ak (show w1.heap[w.heap.size]?=some (.cells #[.int .i64 c1,.int .i64 c2,.int .i64 c3,.int .i64 c4,.int .i64 c5,.int .i64 c6] 46 (0,0)) from J1.out.k);clear hb1 k0 hv0 J0 HS;go_wp2_with fail;refine(HD.out _ J1.out.v).mono ?_;rintro e w2 ⟨rfl,hb2⟩;have J2:=aa (J1.out.next hb2);clear hb2 k1 J1;unfold vW;go_wp2_with fail;refine bodyPost_ret (v:=.tuple #[.int .i64 e,.int .i64 0]) (by simp[results,results279,go_sem]) rfl ⟨rfl,J2.out.b⟩
theorem ritv_any (w:World) (a:Option Addr) (cap:Nat) (l:List Vrn) (c:Crs) (dx:Int) (hl:l.length≤9223372036854775807) (h:VrnsAt w a l) :
 Calls prog 238 #[.slice a l.length cap,c.val,.int .i64 dx] w fun r w'=>r=.returned (il (lD l c dx))∧Below w.heap.size w w':=by
 obtain⟨w0,hw0⟩:∃W,W=w.alloc (.cells c.vals 46):=⟨_,rfl⟩;have J0:=aa (show VC w a l w.heap.size c w0 by rw[hw0];exact yU h c);have HO:=aa (fun W (hW:VrnsAt W a l)=>ropened_any W a cap l c dx hl hW);obtain⟨R,hR⟩:=ag (lD l c dx)
 have HZ:openedE l c dx≠0→R=(none,openedE l c dx):=fun q=>by
  rw[←hR];unfold openedE at q ⊢
  by_cases h1:eW l c≠0
  ·rw[if_pos h1];exact uX dx h1
  ·rw[if_neg h1] at q ⊢
   by_cases h2:dx=0∨bm dx (-100000) 100000=false
   ·rw[if_pos h2]
    obtain⟨-,e,-,he⟩:=A7 dx (Classical.not_not.1 h1);rw[he,if_pos h2]
   ·rw[if_neg h2] at q;exact absurd rfl q
 have HY:openedE l c dx=0→c.ok=true∧(dx≠0∧-100000≤dx∧dx≤100000)∧∃e,eN l c.year=some e∧R=(gD c e dx,0):=fun q=>by
  unfold openedE at q
  by_cases h1:eW l c≠0
  ·rw[if_pos h1] at q;exact absurd q h1
  ·rw[if_neg h1] at q
   by_cases h2:dx=0∨bm dx (-100000) 100000=false
   ·rw[if_pos h2] at q;cases q
   ·obtain⟨ok,e,hd,he⟩:=A7 dx (Classical.not_not.1 h1)
    rw[hR,if_neg h2] at he;refine⟨ok,?_,e,hd,he⟩;unfold bm at h2;simp at h2;omega
 have HZ2:=aa HZ;have HY2:=aa HY;rw[hR];clear HZ HY hR;have hv0:=J0.out.v;have HB:=aa (fun(hc:c.ok=true) e (he:eN l c.year=some e) (hx:dx≠0∧-100000≤dx∧dx≤100000) W=>rboth_any c e dx hc (Ai he) hx W);obtain⟨er,her⟩:=ag (openedE l c dx);rw[her] at HO HZ2 HY2;clear h her;have HK:=aa (show ∀W,VC w a l w.heap.size c W→W.heap[w.heap.size]?=some (.cells c.vals 46 (0,0)) from fun W h=>h.k)
 by_cases h1:er≠0
 ·have hR:=HZ2.out h1
  have h1c:(er != 0)=true:=by simpa using h1
  rw[if_neg h1] at HO;subst hR;have k0:=ak (HK.out _ J0.out)
  unfold Crs.val Crs.vals at *
  clear h1 HY2 HZ2 HB HK;go_enter func238,ntmps238;go_upto_region 1 with fail;rw[←hw0];clear hw0;go_wp2_with (go_at_call 279;refine(HO.out _ hv0).mono ?_;rintro e w1 ⟨rfl,hb1⟩);refine bodyPost_ret (v:=il (none,er)) (by simp[results,results238,go_sem,il]) rfl ⟨rfl,bB J0.out.b hb1⟩
 obtain rfl:er=0:=by omega
 obtain⟨ok,hx,e,hd,hR⟩:=HY2.out rfl;have HB2:=aa (HB.out ok e hd hx);rw[if_pos rfl,hd,Option.getD_some] at HO;obtain⟨fb,hfb⟩:=ag (gD c e dx);rw[hfb] at HB2 hR;subst hR;have k0:=ak (HK.out _ J0.out)
 unfold Crs.val at *
 have HK2:=aa (fun W (h:VC w a l w.heap.size c W)=>ak (HK.out W h));unfold Crs.vals at k0 HO HB2 HK2 ⊢;clear h1 HY2 HZ2 HB HK ok hx hd hfb;go_enter func238,ntmps238;go_upto_region 1 with fail;rw[show w.alloc (.cells #[.int .i64 c.bearing,.int .i64 c.needle,.int .i64 c.links,.int .i64 c.year,.int .i64 c.wear,.int .i64 c.slack] 46)=w0 from hw0.symm];clear hw0;go_wp2_with fail;refine(HO.out _ hv0).mono ?_;rintro e w1 ⟨rfl,hb1⟩;have J1:=aa (J0.out.next hb1);have k1:=HK2.out w1 J1.out;clear hb1 k0 hv0 J0 HO HK2;go_wp2_with fail;refine(HB2.out _).mono ?_;rintro e w2 ⟨rfl,hb2⟩;have J2:=aa (J1.out.next hb2);clear hb2 k1 J1 HB2
 cases fb with
 | none =>
   unfold dY;go_wp2_with fail;refine bodyPost_ret (v:=il (none,0)) (by simp[results,results238,go_sem,il]) rfl ⟨rfl,J2.out.b⟩
 | some p =>
   obtain⟨p1,p2⟩:=p;unfold dY;go_wp2_with fail;refine bodyPost_ret (v:=il (some (p1,p2),0)) (by simp[results,results238,go_sem,il]) rfl ⟨rfl,J2.out.b⟩
theorem strs_news {w:World} {b off:Nat} {l:List ByteArray} (hc:∀i (h:i<l.length) j,j<1→w.cell? ⟨b,off+i*1+j,none⟩=(cO l[i])[j]?):∀j u,(l.flatMap cO)[j]?=some u→w.cell? ((⟨b,off,none⟩:Addr).add j)=some u:=by
 intro j u hj;rw[show((⟨b,off,none⟩:Addr).add j)=⟨b,off+j,none⟩ from by unfold Addr.add;split<;>simp_all]
 have hlt:j<l.length:=by
  have:=(List.getElem?_eq_some_iff.1 hj).1;rw[flatMap_len (k:=1) (fun _=>rfl)] at this;omega
 have h1:=hc j hlt 0 (by omega);have h2:=mL (k:=1) (f:=cO) (fun _=>rfl) l j hlt 0 (by omega);rw[Nat.mul_one,Nat.add_zero] at h1 h2;rw[h1,←h2,hj]
theorem append_strs (w:World) (base:Nat) (v:Value) (xs:List ByteArray) (hown:w.ownsRow base 9 1 v xs.length (xs.flatMap cO)) (a:Option Addr) (cap:Nat) (l:List ByteArray) (h:StrsAt w a l) (hn:l≠[]) (hx:xs.length≤100000) (hl:l.length≤100000) (hb:base≤w.heap.size) (ty:TypeId) :
 ∃v' w',(Builtin.append_ #[23,23] ty #[v,.slice a l.length cap]).run prog w=.ok v' w'∧w'.ownsRow base 9 1 v' (xs++l).length ((xs++l).flatMap cO)∧Below base w w':=by
 obtain⟨i0,hi,hz0,hz1,hz2⟩:=info_parts AW
 rcases h with e|⟨b,off,rfl,_,hc⟩
 ·exact absurd e hn
 obtain⟨v',w',hrun,h2,h3,_,h5⟩:=run_append_own_at (P:=prog) w base 23 ty 9 i0 _ 1 16 underlying23 hi hz0 hz1 hz2 rfl (by decide) v _ _ hown ⟨b,off,none⟩ l.length cap (l.flatMap cO) (flatMap_len (k:=1) (f:=cO) (fun _=>rfl) l) (strs_news hc) (by intro u hu;obtain⟨s,_,hs⟩:=List.mem_flatMap.1 hu;simp[cO] at hs;subst hs;rfl) (by unfold maxLen;omega) (by omega) hb;refine⟨v',w',hrun,by rw[List.length_append,List.flatMap_append];exact h2,(Below.refl base w).grown h3 hb (fun q e=>?_)⟩
 rcases hown.2 with ⟨e1,_⟩|⟨g1,cp',cu,e1,hge,hh,_⟩
 ·rw[e1] at e;simp[Value.ownBlock] at e
 ·rw[e1] at e
  simp only[Value.ownBlock,Option.some.injEq] at e;omega
def RNamesPost (w:World) (l:List ByteArray) (e:Ending) (w':World):Prop :=
 (∃o c,e=.returned (.slice o l.length c)∧StrsAt w' o l∧l.length≤c∧c≤9223372036854775807)∧Below w.heap.size w w'
theorem rnames_mk {w w':World} {base:Nat} {v:Value} {l:List ByteArray} (h:w'.ownsRow base 9 1 v l.length (l.flatMap cO)) (hb:Below w.heap.size w w'):RNamesPost w l (.returned v) w':=by
 obtain⟨o,c,rfl,h1,h2,h3,_⟩:=iO (f:=cO) (fun _=>rfl) h;exact⟨⟨o,c,rfl,h1,h2,h3⟩,hb⟩
theorem rnames_mk' {w w':World} {base n:Nat} {v:Value} {l:List ByteArray} (hn:n=l.length) (h:w'.ownsRow base 9 1 v n (l.flatMap cO)) (hb:Below w.heap.size w w'):RNamesPost w l (.returned v) w':=by
 subst hn;exact rnames_mk h hb
theorem refNames0_any (w:World) (x:FV) (F:Fld) (h1:F.sts.length≤4000) (h:FldAt w x F) :
 Calls prog 162 #[x.val F,.int .i64 0] w (RNamesPost w (F.sts.map Sta.name)):=by
 have H:=aa h.st;clear h;unfold FV.val FV.arr;obtain⟨aS,cS,aL,cL,aP,cP,aV,cV⟩:=x;obtain⟨st,lm,pr,vr⟩:=F;dsimp only at h1 H ⊢;obtain⟨W0,hW0⟩:∃W0,W0=w.alloc (.cells #[.slice aS st.length cS,.slice aL lm.length cL,.slice aP pr.length cP,.slice aV vr.length cV] 27):=⟨_,rfl⟩
 have hb0:Below w.heap.size w W0:=by rw[hW0];exact aD
 have x0:W0.heap[w.heap.size]?=some (.cells #[.slice aS st.length cS,.slice aL lm.length cL,.slice aP pr.length cP,.slice aV vr.length cV] 27 (0,0)):=by rw[hW0];exact heap_alloc_new _ _
 have c0:W0.cell? ⟨w.heap.size,0,none⟩=some (.slice aS st.length cS):=bu x0 rfl;have l0:w.heap.size<W0.heap.size:=lt_of_block x0;have B0:=aa hb0;have C0:=aa c0;go_enter func162,ntmps162;go_upto_region 1 with fail;rw[←hW0];clear hW0 hb0 x0 c0;go_wp2_with fail
 go_loopw [5,6] (fun v i wr=>∃k:Nat,k≤st.length∧i=.int .i64 k∧Hid (wr.ownsRow W0.heap.size 9 1 v k (((st.take k).map Sta.name).flatMap cO))∧Hid (Below W0.heap.size W0 wr))
  (fun _ i _=>st.length-(intOf i).toNat)
 case atStart=>exact⟨0,Nat.zero_le _,rfl,aa (World.ownsRow_nil _ _ _ _),aa (Below.refl _ _)⟩
 case round =>
  obtain⟨k,hk,rfl,HOWN,HB⟩:=hrel;obtain⟨wx,rfl⟩:∃x:World,x=wr:=⟨wr,rfl⟩;have cc:wx.cell? ⟨w.heap.size,0,none⟩=some (.slice aS st.length cS):=(HB.out.cell (p:=⟨w.heap.size,0,none⟩) l0).trans C0.out
  by_cases hlt:k<st.length
  ·obtain⟨b,off,rfl,hbl,hc⟩:=RecsAt.at H.out hlt
   have HTK:Hid (((st.take (k+1)).map Sta.name).flatMap cO=((st.take k).map Sta.name).flatMap cO++[.string (st[k]).name]):=aa (by rw[List.take_succ_eq_append_getElem hlt,List.map_append,List.flatMap_append];rfl);obtain⟨x,hx⟩:=ag (st[k]);rw[hx] at hc HTK;have z0:=hc 0 (by omega);have BW:=bU B0 HB.out;rw[←BW.out.cell hbl,Nat.add_zero] at z0;simp only[Sta.cells,List.getElem?_cons_zero] at z0;clear hc hx;have HLT:=aa hlt;have own3:=HOWN.out.alloc (.cells #[.string x.name] 9);obtain⟨v',wa,hrun,hown',hbl2,_⟩:=ij (w:=wx.alloc (.cells #[.string x.name] 9)) (tS:=23) underlying23 AW rfl (by decide) (by decide) own3 (b:=wx.heap.size) (news:=[.string x.name]) rfl (heap_alloc_new _ _) (by intro u hu;simp at hu;subst hu;rfl) (by omega) (by have:=HB.out.size;simp;omega) 23;have HRUN:=aa hrun;have HOW:=aa (show wa.ownsRow W0.heap.size 9 1 v' (k+1) (((st.take (k+1)).map Sta.name).flatMap cO) by rw[HTK.out];exact hown');have HBL:=aa ((HB.out.alloc HB.out.size _).trans hbl2);clear hrun hown' hbl2 own3 HTK;go_wp2_with (at_builtin;refine aN rfl (s:=.tmp 17) (x:=.tmp 24) (t:=23) rfl rfl rfl HRUN.out ?_);go_roundw
   case rel=>exact⟨k+1,HLT.out,by go_num,HOW,HBL⟩
   case measure=>have:=HLT.out;simp[intOf];omega
  ·obtain rfl:k=st.length:=by omega
   have ho:=HOWN.out;rw[List.take_length] at ho;have HO:=aa ho;clear ho HOWN;have BW:=bU B0 HB.out;go_wp2_with fail;go_ret;exact rnames_mk' (List.length_map _).symm HO.out BW.out
theorem refNames2_any (w:World) (x:FV) (F:Fld) (h1:F.prs.length≤4000) (h:FldAt w x F) :
 Calls prog 162 #[x.val F,.int .i64 2] w (RNamesPost w (F.prs.map Par.name)):=by
 have H:=aa h.pr;clear h;unfold FV.val FV.arr;obtain⟨aS,cS,aL,cL,aP,cP,aV,cV⟩:=x;obtain⟨st,lm,pr,vr⟩:=F;dsimp only at h1 H ⊢;obtain⟨W0,hW0⟩:∃W0,W0=w.alloc (.cells #[.slice aS st.length cS,.slice aL lm.length cL,.slice aP pr.length cP,.slice aV vr.length cV] 27):=⟨_,rfl⟩
 have hb0:Below w.heap.size w W0:=by rw[hW0];exact aD
 have x0:W0.heap[w.heap.size]?=some (.cells #[.slice aS st.length cS,.slice aL lm.length cL,.slice aP pr.length cP,.slice aV vr.length cV] 27 (0,0)):=by rw[hW0];exact heap_alloc_new _ _
 have c0:W0.cell? ⟨w.heap.size,2,none⟩=some (.slice aP pr.length cP):=bu x0 rfl;have l0:w.heap.size<W0.heap.size:=lt_of_block x0;have B0:=aa hb0;have C0:=aa c0;go_enter func162,ntmps162;go_upto_region 1 with fail;rw[←hW0];clear hW0 hb0 x0 c0;go_wp2_with fail
 go_loopw [5,7] (fun v i wr=>∃k:Nat,k≤pr.length∧i=.int .i64 k∧Hid (wr.ownsRow W0.heap.size 9 1 v k (((pr.take k).map Par.name).flatMap cO))∧Hid (Below W0.heap.size W0 wr))
  (fun _ i _=>pr.length-(intOf i).toNat)
 case atStart=>exact⟨0,Nat.zero_le _,rfl,aa (World.ownsRow_nil _ _ _ _),aa (Below.refl _ _)⟩
 case round =>
  obtain⟨k,hk,rfl,HOWN,HB⟩:=hrel;obtain⟨wx,rfl⟩:∃x:World,x=wr:=⟨wr,rfl⟩;have cc:wx.cell? ⟨w.heap.size,2,none⟩=some (.slice aP pr.length cP):=(HB.out.cell (p:=⟨w.heap.size,2,none⟩) l0).trans C0.out
  by_cases hlt:k<pr.length
  ·obtain⟨b,off,rfl,hbl,hc⟩:=RecsAt.at H.out hlt
   have HTK:Hid (((pr.take (k+1)).map Par.name).flatMap cO=((pr.take k).map Par.name).flatMap cO++[.string (pr[k]).name]):=aa (by rw[List.take_succ_eq_append_getElem hlt,List.map_append,List.flatMap_append];rfl);obtain⟨x,hx⟩:=ag (pr[k]);rw[hx] at hc HTK;have z0:=hc 0 (by omega);have BW:=bU B0 HB.out;rw[←BW.out.cell hbl,Nat.add_zero] at z0;simp only[Par.cells,List.getElem?_cons_zero] at z0;clear hc hx;have HLT:=aa hlt;have own3:=HOWN.out.alloc (.cells #[.string x.name] 9);obtain⟨v',wa,hrun,hown',hbl2,_⟩:=ij (w:=wx.alloc (.cells #[.string x.name] 9)) (tS:=23) underlying23 AW rfl (by decide) (by decide) own3 (b:=wx.heap.size) (news:=[.string x.name]) rfl (heap_alloc_new _ _) (by intro u hu;simp at hu;subst hu;rfl) (by omega) (by have:=HB.out.size;simp;omega) 23;have HRUN:=aa hrun;have HOW:=aa (show wa.ownsRow W0.heap.size 9 1 v' (k+1) (((pr.take (k+1)).map Par.name).flatMap cO) by rw[HTK.out];exact hown');have HBL:=aa ((HB.out.alloc HB.out.size _).trans hbl2);clear hrun hown' hbl2 own3 HTK;go_wp2_with (at_builtin;refine aN rfl (s:=.tmp 41) (x:=.tmp 48) (t:=23) rfl rfl rfl HRUN.out ?_);go_roundw
   case rel=>exact⟨k+1,HLT.out,by go_num,HOW,HBL⟩
   case measure=>have:=HLT.out;simp[intOf];omega
  ·obtain rfl:k=pr.length:=by omega
   have ho:=HOWN.out;rw[List.take_length] at ho;have HO:=aa ho;clear ho HOWN;have BW:=bU B0 HB.out;go_wp2_with fail;go_ret;exact rnames_mk' (List.length_map _).symm HO.out BW.out
theorem refNames1_any (w:World) (x:FV) (F:Fld) (h1:F.lms.length≤4000) (h2:1≤F.lms.length) (h:FldAt w x F) :
 Calls prog 162 #[x.val F,.int .i64 1] w (RNamesPost w F.lms):=by
 have H:=aa h.lm;clear h;unfold FV.val FV.arr;obtain⟨aS,cS,aL,cL,aP,cP,aV,cV⟩:=x;obtain⟨st,lm,pr,vr⟩:=F;dsimp only at h1 h2 H ⊢;obtain⟨W0,hW0⟩:∃W0,W0=w.alloc (.cells #[.slice aS st.length cS,.slice aL lm.length cL,.slice aP pr.length cP,.slice aV vr.length cV] 27):=⟨_,rfl⟩
 have hb0:Below w.heap.size w W0:=by rw[hW0];exact aD
 have x0:W0.heap[w.heap.size]?=some (.cells #[.slice aS st.length cS,.slice aL lm.length cL,.slice aP pr.length cP,.slice aV vr.length cV] 27 (0,0)):=by rw[hW0];exact heap_alloc_new _ _
 have c1:W0.cell? ⟨w.heap.size,1,none⟩=some (.slice aL lm.length cL):=bu x0 rfl;have l0:w.heap.size<W0.heap.size:=lt_of_block x0;have B0:=aa hb0;obtain⟨v',wa,hrun,hown,hbl⟩:=append_strs W0 W0.heap.size (.slice none 0 0) [] (World.ownsRow_nil _ _ _ _) aL cL lm (H.out.below hb0 (Nat.le_refl _)) (fun e=>by subst e;simp at h2) (by simp) (by omega) (Nat.le_refl _) 23;rw[List.nil_append] at hown;have HRUN:=aa hrun;have HO:=aa hown;have HBL:=bU B0 hbl;clear hrun hown hbl;go_enter func162,ntmps162;go_upto_region 1 with fail;rw[←hW0];clear hW0 hb0 x0;go_wp2_with (at_builtin;refine aN rfl (s:=.tmp 28) (x:=.tmp 30) (t:=23) rfl rfl rfl HRUN.out ?_);go_ret;exact rnames_mk HO.out HBL.out
def Fld.ordB (F:Fld):Bool:=eQ F.sts F.sts.length&&eV F.prs F.prs.length
theorem overB_common (p q:Par) (_hp:p.small) (_hq:q.small):nG p q=(p.south==q.south&&decide (max 0 (min p.est q.est-max p.wst q.wst+1)>1)):=by
 unfold nG
 congr 1
 apply decide_eq_decide.2
 omega
theorem ordered_any (w:World) (x:FV) (F:Fld) (h1:F.sts.length≤1000) (h2:F.prs.length≤1000) (hs:∀p∈F.prs,p.small) (h:FldAt w x F) :
 Calls prog 166 #[x.val F] w fun e w'=>e=.returned (.bool F.ordB)∧Below w.heap.size w w':=by
 have H:=aa h;have HSM:=aa hs;clear h hs;obtain⟨Q,hQ⟩:=ag F.ordB;rw[hQ];unfold FV.val FV.arr;obtain⟨aS,cS,aL,cL,aP,cP,aV,cV⟩:=x;obtain⟨st,lm,pr,vr⟩:=F;unfold Fld.ordB at hQ;dsimp only at h1 h2 H hQ HSM ⊢;have HQ:=aa hQ;clear hQ;obtain⟨W0,hW0⟩:∃W0,W0=w.alloc (.cells #[.slice aS st.length cS,.slice aL lm.length cL,.slice aP pr.length cP,.slice aV vr.length cV] 27):=⟨_,rfl⟩;have B0:=aa (show Below w.heap.size w W0 by rw[hW0];exact aD);have X0:=aa (show W0.heap[w.heap.size]?=some (.cells #[.slice aS st.length cS,.slice aL lm.length cL,.slice aP pr.length cP,.slice aV vr.length cV] 27 (0,0)) by rw[hW0];exact heap_alloc_new _ _);have l0:w.heap.size<W0.heap.size:=lt_of_block X0.out;go_enter func166,ntmps166;go_upto_region 1 with fail;rw[←hW0];clear hW0;go_wp2_with fail
 go_loopw [3] (fun i wr=>∃k nd:Nat,1≤k∧(k≤st.length∨k=1)∧i=.int .i64 k∧Hid (eQ st k=true)∧wr=W0.drewN nd) (fun i _=>st.length-(intOf i).toNat)
 case atStart=>exact⟨1,0,by omega,.inr rfl,rfl,aa (by simp[eQ,List.range_succ]),rfl⟩
 case round =>
  obtain⟨k,nd,hk1,hk,rfl,HA,rfl⟩:=hrel;have c0:W0.cell? ⟨w.heap.size,0,none⟩=some (.slice aS st.length cS):=bu X0.out rfl
  by_cases hlt:k<st.length
  ·obtain⟨b,off,rfl,hbl,hcc⟩:=RecsAt.at H.out.st hlt
   have e1:=hcc 1 (by omega);obtain⟨b',off',eq',_,hcc'⟩:=RecsAt.at H.out.st (show k-1<st.length by omega);cases eq';have f1:=hcc' 1 (by omega);rw[←B0.out.cell hbl] at e1 f1;dsimp only at e1 f1;simp only[Sta.cells,List.getElem?_cons_zero,List.getElem?_cons_succ] at e1 f1;have HSUC:=aa (uh st k);rw[show(st.getD (k-1) js)=st[k-1] from by simp[show k-1<st.length by omega],show st.getD k js=st[k] from by simp[hlt]] at HSUC;obtain⟨u,hu⟩:=ag (st[k-1].x);obtain⟨v,hv⟩:=ag (st[k].x);rw[hu] at f1 HSUC;rw[hv] at e1 HSUC;obtain⟨j,rfl⟩:∃j,k=j+1:=⟨k-1,by omega⟩;simp only[Nat.add_sub_cancel] at f1
   have hj1:(((j+1:Nat):Int)-1)=(j:Int):=by omega
   have hjw:IntKind.i64.wrap (j:Int)=(j:Int):=IntWalk.i64_in _ (by omega)
   have hdl:decide (((j+1:Nat):Int)<(st.length:Int))=true:=by simp;omega
   have hjl:j<st.length:=by omega
   clear hu hv hcc hcc'
   by_cases huv:u<v
   ·have hd:decide (u≥v)=false:=by simp;omega
    have HS:Hid (eQ st (j+1+1)=true):=aa (by rw[HSUC.out,HA.out];simp[huv]);clear huv;go_wp2_with fail
    go_quiet (fail)
    go_wp2_with fail;go_roundw
    case rel=>exact⟨j+1+1,_,by omega,.inl (by omega),by go_num,HS,rfl⟩
    case measure=>simp[intOf];omega
   ·have hd:decide (u≥v)=true:=by simp;omega
    obtain rfl:false=Q:=by rw[←HQ.out,sX (n:=st.length) (k:=j+1+1) (by omega) (by rw[HSUC.out];simp[huv])];rfl
    clear huv;go_wp2_with fail
    go_quiet (fail)
    go_wp2_with fail;go_ret;exact⟨rfl,(B0.out.trans (aA _ _)).trans (aA _ _)⟩
  ·have hall:eQ st st.length=true:=by
    have h3:=HA.out
    rcases hk with h4|h4
    ·rw[show st.length=k by omega];exact h3
    ·subst h4
     cases hz:eQ st st.length with
     | true=>rfl
     | false=>rw[sX (k:=st.length) (by omega) hz] at h3;cases h3
   have HQ2:Hid (eV pr pr.length=Q):=aa (by rw[←HQ.out,hall,Bool.true_and])
   have hdl:decide ((k:Int)<(st.length:Int))=false:=by simp;omega
   clear hall HQ HA;go_wp2_with fail;clear c0;obtain⟨W1,hw1⟩:∃X:World,X=W0.drewN nd:=⟨_,rfl⟩;rw[←hw1];have B1:=aa (show Below w.heap.size w W1 by rw[hw1];exact B0.out.trans (aA _ _));have X1:=aa (show W1.heap[w.heap.size]?=some (.cells #[.slice aS st.length cS,.slice aL lm.length cL,.slice aP pr.length cP,.slice aV vr.length cV] 27 (0,0)) by rw[hw1];exact X0.out);have l1:=lt_of_block X1.out;clear hw1 hdl
   go_loopw [4] (fun i wr=>∃k:Nat,k≤pr.length∧i=.int .i64 k∧Hid (eV pr k=true)∧Hid (Below W1.heap.size W1 wr)) (fun i _=>pr.length-(intOf i).toNat)
   case atStart=>exact⟨0,Nat.zero_le _,rfl,aa rfl,aa (Below.refl _ _)⟩
   case round =>
    obtain⟨k,hk,rfl,HA,HB⟩:=hrel;obtain⟨w2,rfl⟩:∃x:World,x=wr:=⟨wr,rfl⟩;have B2:=bU B1 HB.out;have X2:=aa (ac HB.out l1 X1.out);have l2:=lt_of_block X2.out;have g2:w2.cell? ⟨w.heap.size,2,none⟩=some (.slice aP pr.length cP):=bu X2.out rfl
    by_cases hlt:k<pr.length
    ·obtain⟨b,off,rfl,hbl,hcc⟩:=RecsAt.at H.out.pr hlt
     have HC:=aa hcc;have e2:=hcc 2 (by omega);have e3:=hcc 3 (by omega);rw[←B2.out.cell hbl] at e2 e3;obtain⟨y,hy⟩:=ag (pr[k]);dsimp only at e2 e3 HC;rw[hy] at e2 e3 HC;simp only[Par.cells,List.getElem?_cons_zero,List.getElem?_cons_succ] at e2 e3;have HSUC:=aa (sG pr k);rw[show pr.getD k r8=y from by rw[←hy];simp[hlt]] at HSUC;have HYS:=aa (HSM.out y (by rw[←hy];exact List.getElem_mem hlt));have HLT:=aa hlt;clear hy hcc;obtain⟨yn,y0,y1,y2⟩:=y;dsimp only at e2 e3 HSUC
     by_cases hge:y1<y2
     ·have hd:decide (y1≥y2)=false:=by simp;omega
      have hd2:=aa (show decide (y1<y2)=true by simpa using hge);clear hge;go_wp2_with fail
      go_quiet (fail)
      go_wp2_with fail;clear hd e2 e3 g2
      go_loopw [5] (fun i wr=>∃j:Nat,j≤k∧i=.int .i64 j∧Hid ((pr.take j).any (nG ⟨yn,y0,y1,y2⟩)=false)∧Hid (Below W1.heap.size W1 wr)) (fun i _=>k-(intOf i).toNat)
      case atStart=>exact⟨0,Nat.zero_le _,rfl,aa rfl,aa (HB.out.trans (aA _ _))⟩
      case round =>
       obtain⟨j,hj,rfl,HO,HB3⟩:=hrel;obtain⟨w3,rfl⟩:∃x:World,x=wr:=⟨wr,rfl⟩;have B3:=bU B1 HB3.out;have X3:=aa (ac HB3.out l1 X1.out);have l3:=lt_of_block X3.out;have g2:w3.cell? ⟨w.heap.size,2,none⟩=some (.slice (some ⟨b,off,none⟩) pr.length cP):=bu X3.out rfl
       by_cases hjk:j<k
       ·have hjl:j<pr.length:=by omega
        have hkl:k<pr.length:=by omega
        obtain⟨b',off',eq',_,hcc'⟩:=RecsAt.at H.out.pr hjl;cases eq';have d0:=HC.out 0 (by omega);have d1:=HC.out 1 (by omega);have d2:=HC.out 2 (by omega);have d3:=HC.out 3 (by omega);have f0:=hcc' 0 (by omega);have f1:=hcc' 1 (by omega);have f2:=hcc' 2 (by omega);have f3:=hcc' 3 (by omega);rw[←B3.out.cell hbl,Nat.add_zero] at d0 f0;rw[←B3.out.cell hbl] at d1 d2 d3 f1 f2 f3;obtain⟨z,hz⟩:=ag (pr[j]);dsimp only at f0 f1 f2 f3;rw[hz] at f0 f1 f2 f3;simp only[Par.cells,List.getElem?_cons_zero,List.getElem?_cons_succ] at d0 d1 d2 d3 f0 f1 f2 f3;have HZS:=aa (HSM.out z (by rw[←hz];exact List.getElem_mem hjl));have HZ:=aa hz;have HCM:=aa (fun W=>common3_any ⟨yn,y0,y1,y2⟩ z W HYS.out HZS.out);have HOV:=aa (overB_common ⟨yn,y0,y1,y2⟩ z HYS.out HZS.out);have HJK:=aa hjk;clear hz hcc';obtain⟨zn9Q,z0,z1,z2⟩:=z;simp only[Par.val] at HCM;dsimp only at f0 f1 f2 f3 HOV;obtain⟨m,hm⟩:=ag (max 0 (min y2 z2-max y1 z1+1));rw[hm] at HCM HOV;clear hm
        by_cases hs:y0=z0
        ·subst hs
         by_cases hm:m>1
         ·have hmd:decide (m>1)=true:=by simpa using hm
          have hmd':decide (1<m)=true:=by simpa using hm
          obtain rfl:false=Q:=by
           rw[←HQ2.out];refine(mh (k:=k+1) (by omega) ?_).symm;rw[HSUC.out,gX (l:=pr.take k) (k:=j) (p:=nG ⟨yn,y0,y1,y2⟩) (by simp;omega) (by simp only[List.getElem_take];rw[HZ.out,HOV.out,hmd];simp)];simp
          clear hm;go_upto_region 14 with fail
          go_still_tail 24,(by kernel_rfl)
          change wpList _ _ _ _ _ w3.drew
          go_wp2_with (go_at_call 235;refine(HCM.out _).mono ?_;rintro e w4 ⟨rfl,hb4⟩);go_ret;exact⟨rfl,bB B3.out.drew hb4⟩
         ·have hmd:decide (m>1)=false:=by simpa using hm
          have hmd':decide (1<m)=false:=by simpa using hm
          have HO2:Hid ((pr.take (j+1)).any (nG ⟨yn,y0,y1,y2⟩)=false):=aa (bR hjl HO.out (by rw[HZ.out,HOV.out,hmd];simp));clear hm;go_upto_region 14 with fail
          go_still_tail 24,(by kernel_rfl)
          change wpList _ _ _ _ _ w3.drew
          go_wp2_with (go_at_call 235;refine(HCM.out _).mono ?_;rintro e w4 ⟨rfl,hb4⟩);go_roundw
          case rel=>exact⟨j+1,HJK.out,by go_num,HO2,aa (bB HB3.out.drew hb4)⟩
          case measure=>have:=HJK.out;simp[intOf];omega
        ·have hsd:(y0==z0)=false:=by simpa using hs
         have HO2:Hid ((pr.take (j+1)).any (nG ⟨yn,y0,y1,y2⟩)=false):=aa (bR hjl HO.out (by rw[HZ.out,HOV.out];simp[hs]));clear hs;go_upto_region 14 with fail
         go_quiet (fail)
         go_wp2_with fail;go_roundw
         case rel=>exact⟨j+1,HJK.out,by go_num,HO2,aa (HB3.out.trans (aA _ _))⟩
         case measure=>have:=HJK.out;simp[intOf];omega
       ·obtain rfl:j=k:=by omega
        have HA2:Hid (eV pr (j+1)=true):=aa (by rw[HSUC.out,HA.out,HO.out,hd2.out];rfl);go_wp2_with fail;go_roundw
        case rel=>exact⟨j+1,HLT.out,by go_num,HA2,HB3⟩
        case measure=>have:=HLT.out;simp[intOf];omega
     ·have hd:decide (y1≥y2)=true:=by simp;omega
      have hd2:decide (y1<y2)=false:=by simpa using hge
      obtain rfl:false=Q:=by rw[←HQ2.out,mh (n:=pr.length) (k:=k+1) (by omega) (by rw[HSUC.out,hd2];simp)]
      clear hge;go_wp2_with fail
      go_quiet (fail)
      go_wp2_with fail;go_ret;exact⟨rfl,B2.out.trans (aA _ _)⟩
    ·obtain rfl:k=pr.length:=by omega
     obtain rfl:true=Q:=by rw[←HQ2.out,HA.out]
     go_wp2_with fail;go_ret;exact⟨rfl,B2.out⟩
def Fld.nm (F:Fld) (k:Nat):List ByteArray:=F.names.getD k []
theorem Fld.nm_get (F:Fld) {k:Nat} (h:k<F.names.length):F.names[k]=F.nm k:=by unfold Fld.nm;simp[h]
theorem refNames_any (w:World) (x:FV) (F:Fld) (k:Nat) (hk:k<3) (h1:F.sts.length≤4000) (h2:F.lms.length≤4000) (h3:1≤F.lms.length) (h4:F.prs.length≤4000) (h:FldAt w x F) :
 Calls prog 162 #[x.val F,.int .i64 (k:Int)] w (RNamesPost w (F.nm k)):=by
 have hk3:k=0∨k=1∨k=2:=by omega
 rcases hk3 with rfl|rfl|rfl
 ·exact refNames0_any w x F h1 h
 ·exact refNames1_any w x F h2 h3 h
 ·exact refNames2_any w x F h4 h
theorem nm_len (F:Fld) (k:Nat) (h1:F.sts.length≤4000) (h2:F.lms.length≤4000) (h4:F.prs.length≤4000):(F.nm k).length≤4000:=by
 unfold Fld.nm Fld.names
 match k with
 | 0=>simpa using h1
 | 1=>simpa using h2
 | 2=>simpa using h4
 | _+3=>simp
theorem Fld.ordB_eq (F:Fld):F.chkC=if F.ordB=false then 30 else 0:=by
 unfold Fld.chkC Fld.ordB
 cases eQ F.sts F.sts.length<;>cases eV F.prs F.prs.length<;>rfl
theorem refCheckField_any (w:World) (x:FV) (F:Fld) (h:FldAt w x F):Calls prog 89 #[x.val F] w fun e w'=>e=.returned (.int .i64 F.check)∧Below w.heap.size w w':=by
 have H:=aa h;obtain⟨Q,hQ⟩:=ag F.check;rw[hQ];rw[Fld.check_eq] at hQ;have HN0:=aa (fun(W:World) (hb:Below w.heap.size w W) (k:Nat) (hk:k<3) (g1:F.sts.length≤4000) (g2:F.lms.length≤4000) (g3:1≤F.lms.length) (g4:F.prs.length≤4000)=>refNames_any W x F k hk g1 g2 g3 g4 (H.out.below hb));have HO0:=aa (fun(W:World) (hb:Below w.heap.size w W) (g1:F.sts.length≤1000) (g2:F.prs.length≤1000) (g3:∀p∈F.prs,p.small)=>ordered_any W x F g1 g2 g3 (H.out.below hb));obtain⟨aS,cS,aL,cL,aP,cP,aV,cV⟩:=x;obtain⟨st,lm,pr,vr⟩:=F
 unfold FV.val FV.arr at *
 dsimp only at hQ HN0 HO0 ⊢;clear h;have b0:Below w.heap.size w (w.alloc (.cells #[.slice aS st.length cS,.slice aL lm.length cL,.slice aP pr.length cP,.slice aV vr.length cV] 27)):=aD;have B0:=aa b0;clear b0
 by_cases h2:12<st.length∨10<lm.length∨40<pr.length
 ·obtain rfl:(2:Int)=Q:=by rw[if_pos h2] at hQ;exact hQ
  clear hQ H HN0 HO0;go_enter func89,ntmps89;go_wp2_with fail
  all_goals first|(exfalso;omega)|(go_ret;exact⟨rfl,B0.out⟩)
 rw[if_neg h2] at hQ
 have s1:st.length≤12:=by omega
 have s2:lm.length≤10:=by omega
 have s3:pr.length≤40:=by omega
 have d1:decide ((st.length:Int)>12)=false:=by simp;omega
 have d2:decide ((lm.length:Int)>10)=false:=by simp;omega
 have d3:decide ((pr.length:Int)>40)=false:=by simp;omega
 clear h2
 by_cases h5:st.length<2∨lm.length<1
 ·obtain rfl:(5:Int)=Q:=by rw[if_pos h5] at hQ;exact hQ
  clear hQ H HN0 HO0;go_enter func89,ntmps89;go_wp2_with fail
  all_goals first|(exfalso;omega)|(go_ret;exact⟨rfl,B0.out⟩)
 rw[if_neg h5] at hQ
 have s4:2≤st.length:=by omega
 have s5:1≤lm.length:=by omega
 have d4:decide ((st.length:Int)<2)=false:=by simp;omega
 have d5:decide ((lm.length:Int)<1)=false:=by simp;omega
 clear h5;have hvr:=refVrns_any (w.alloc (.cells #[.slice aS st.length cS,.slice aL lm.length cL,.slice aP pr.length cP,.slice aV vr.length cV] 27)) aV cV vr (by have:=H.out.lv;dsimp only at this;omega) (H.out.vr.alloc _);obtain⟨c,hc⟩:=ag (bz vr);rw[hc] at hvr hQ;have HVR:=aa hvr;clear hvr hc
 by_cases hz:c≠0
 ·obtain rfl:c=Q:=by rw[if_pos hz] at hQ;exact hQ
  have hzb:(c != 0)=true:=by simpa using hz
  clear hQ hz HN0 HO0 H;go_enter func89,ntmps89;go_wp2_with fail;refine HVR.out.mono ?_;rintro e w1 ⟨rfl,hb1⟩;have B1:=bU B0 hb1;clear hb1;go_wp2_with fail;go_ret;exact⟨rfl,B1.out⟩
 obtain rfl:c=0:=by omega
 have HQ:Hid ((Fld.mk st lm pr vr).chkA=Q):=aa (by simpa using hQ);clear hQ hz;have HN:=aa (fun(W:World) (hb:Below w.heap.size w W) (k:Nat) (hk:k<3)=>HN0.out W hb k hk (by omega) (by omega) (by omega) (by omega));have HNL:=aa (fun(k:Nat)=>nm_len (Fld.mk st lm pr vr) k (by show st.length≤4000;omega) (by show lm.length≤4000;omega) (by show pr.length≤4000;omega))
 have HNM:=aa (fun(k:Nat) (hk:k<3)=>show ∀s∈(Fld.mk st lm pr vr).nm k,s.size≤9223372036854775807 by
  rw[←Fld.nm_get _ (show k<(Fld.mk st lm pr vr).names.length from hk)]
  exact H.out.nm _ (List.getElem_mem _))
 clear HN0;go_enter func89,ntmps89;go_wp2_with fail;refine HVR.out.mono ?_;rintro e w1 ⟨rfl,hb1⟩;have B1:=bU B0 hb1;have X1:=aa (ac hb1 (by simp) (heap_alloc_new w (.cells #[.slice aS st.length cS,.slice aL lm.length cL,.slice aP pr.length cP,.slice aV vr.length cV] 27)));have l1:=lt_of_block X1.out;clear hb1 d1 d2 d3 d4 d5 HVR;go_wp2_with fail
 go_loopw [4] (fun i wr=>∃k:Nat,k≤3∧i=.int .i64 k∧Hid (((Fld.mk st lm pr vr).names.take k).any (fun l=>l.any fun s=>!bI s)=false)∧Hid (Below w1.heap.size w1 wr)) (fun i _=>3-(intOf i).toNat)
 case atStart=>exact⟨0,by omega,rfl,aa rfl,aa (Below.refl _ _)⟩
 case round =>
  obtain⟨k,hk,rfl,HA,HB⟩:=hrel;obtain⟨w2,rfl⟩:∃x:World,x=wr:=⟨wr,rfl⟩;have B2:=bU B1 HB.out;have X2:=aa (ac HB.out l1 X1.out);have l2:=lt_of_block X2.out;have c0:w2.cell? ⟨w.heap.size,0,none⟩=some (.slice aS st.length cS):=bu X2.out rfl;have c1:w2.cell? ⟨w.heap.size,1,none⟩=some (.slice aL lm.length cL):=bu X2.out rfl;have c2:w2.cell? ⟨w.heap.size,2,none⟩=some (.slice aP pr.length cP):=bu X2.out rfl;have c3:w2.cell? ⟨w.heap.size,3,none⟩=some (.slice aV vr.length cV):=bu X2.out rfl
  by_cases hlt:k<3
  ·have hkd:decide ((k:Int)<3)=true:=by simp;omega
   have HGE:=aa (Fld.nm_get (Fld.mk st lm pr vr) (k:=k) hlt);have HLT:=aa hlt;have HL4:=aa (HNL.out k);have HM4:=aa (HNM.out k hlt);have HC:=aa (HN.out w2 B2.out k hlt);obtain⟨L,hL⟩:=ag ((Fld.mk st lm pr vr).nm k);rw[hL] at HGE HL4 HM4 HC;clear hL;go_wp2_with fail;refine HC.out.mono ?_;rintro e w3 ⟨⟨o,cc,rfl,hs,hc1,hc2⟩,hb3⟩;have HS:=aa hs;have HB3:=bU HB hb3;have B3:=bU B1 HB3.out;have hl4:=HL4.out;clear hs hb3 HC c0 c1 c2 c3 hkd;go_wp2_with fail
   go_loopw [6] (fun i wr=>∃j:Nat,j≤L.length∧i=.int .i64 j∧Hid ((L.take j).any (fun s=>!bI s)=false)∧wr=w3) (fun i _=>L.length-(intOf i).toNat)
   case atStart=>exact⟨0,Nat.zero_le _,rfl,aa rfl,rfl⟩
   case round =>
    obtain⟨j,hj,rfl,HA2,hw⟩:=hrel;obtain rfl:=hw;obtain⟨w3,rfl⟩:∃x:World,x=wr:=⟨wr,rfl⟩
    by_cases hjl:j<L.length
    ·obtain⟨b,off,rfl,hbl,hcl⟩:=StrsAt.cell HS.out hjl
     have hsz:=HM4.out L[j] (List.getElem_mem hjl);obtain⟨y,hy⟩:=ag (L[j]);rw[hy] at hcl hsz;have HJL:=aa hjl
     have hrn:=fun W=>refName_any y W hsz
     cases hi:bI y with
     | false =>
       rw[hi] at hrn;have HRN:=aa hrn
       obtain rfl:(4:Int)=Q:=by
        rw[←HQ.out];unfold Fld.chkA
        rw[if_pos (gX (l:=(Fld.mk st lm pr vr).names) (k:=k) (p:=fun l=>l.any fun s=>!bI s) HLT.out (by simp only[HGE.out];exact gX (k:=j) (p:=fun s=>!bI s) hjl (by rw[hy,hi];rfl)))]
       clear hy hi hrn;go_wp2_with fail;refine(HRN.out _).mono ?_;rintro e w5 ⟨rfl,rfl⟩;go_wp2_with fail;go_ret;exact⟨rfl,B3.out⟩
     | true =>
       rw[hi] at hrn;have HRN:=aa hrn;have HA3:=aa (bR (p:=fun s=>!bI s) hjl HA2.out (by rw[hy,hi];rfl));clear hy hi hrn;go_wp2_with fail;refine(HRN.out _).mono ?_;rintro e w5 ⟨rfl,rfl⟩;go_wp2_with fail;go_roundw
       case rel=>exact⟨j+1,HJL.out,by go_num,HA3,(by first|trivial|rfl)⟩
       case measure=>have:=HJL.out;simp[intOf];omega
    ·obtain rfl:j=L.length:=by omega
     have hn:=cD (Nat.le_refl _) HA2.out;have HA3:=aa (bR (l:=(Fld.mk st lm pr vr).names) (p:=fun l=>l.any fun s=>!bI s) (k:=k) HLT.out HA.out (by simp only[HGE.out];exact hn));clear hn;go_wp2_with fail;go_roundw
     case rel=>exact⟨k+1,HLT.out,by go_num,HA3,HB3⟩
     case measure=>have:=HLT.out;simp[intOf];omega
  ·obtain rfl : k = 3 := by omega
   have hn:=cD (l:=(Fld.mk st lm pr vr).names) (Nat.le_refl 3) HA.out;have HQ2:Hid ((if(Fld.mk st lm pr vr).names.any (fun l=>cG l l.length) then 6 else(Fld.mk st lm pr vr).chkB)=Q):=aa (by rw[←HQ.out];unfold Fld.chkA;rw[hn];rfl);clear hn HQ HA;go_wp2_with fail;clear hk c0 c1 c2 c3
   go_loopw [7] (fun i wr=>∃k:Nat,k≤3∧i=.int .i64 k∧Hid (((Fld.mk st lm pr vr).names.take k).any (fun l=>cG l l.length)=false)∧Hid (Below w2.heap.size w2 wr)) (fun i _=>3-(intOf i).toNat)
   case atStart=>exact⟨0,by omega,rfl,aa rfl,aa (Below.refl _ _)⟩
   case round =>
    obtain⟨k,hk,rfl,HA,HB⟩:=hrel;obtain⟨w3,rfl⟩:∃x:World,x=wr:=⟨wr,rfl⟩;have B3:=bU B2 HB.out;have X3:=aa (ac HB.out l2 X2.out);have l3:=lt_of_block X3.out;have c0:w3.cell? ⟨w.heap.size,0,none⟩=some (.slice aS st.length cS):=bu X3.out rfl;have c1:w3.cell? ⟨w.heap.size,1,none⟩=some (.slice aL lm.length cL):=bu X3.out rfl;have c2:w3.cell? ⟨w.heap.size,2,none⟩=some (.slice aP pr.length cP):=bu X3.out rfl;have c3:w3.cell? ⟨w.heap.size,3,none⟩=some (.slice aV vr.length cV):=bu X3.out rfl
    by_cases hlt:k<3
    ·have hkd:decide ((k:Int)<3)=true:=by simp;omega
     have HGE:=aa (Fld.nm_get (Fld.mk st lm pr vr) (k:=k) hlt);have HLT:=aa hlt;have HL4:=aa (HNL.out k);have HC:=aa (HN.out w3 B3.out k hlt);obtain⟨L,hL⟩:=ag ((Fld.mk st lm pr vr).nm k);rw[hL] at HGE HL4 HC;clear hL;go_wp2_with fail;refine HC.out.mono ?_;rintro e w4 ⟨⟨o,cc,rfl,hs,hc1,hc2⟩,hb4⟩;have HS:=aa hs;have HB4:=bU HB hb4;have B4:=bU B2 HB4.out;have hl4:=HL4.out;clear hs hb4 HC c0 c1 c2 c3 hkd;go_wp2_with fail
     go_loopw [9] (fun i wr=>∃j:Nat,j≤L.length∧i=.int .i64 j∧Hid (cG L j=false)∧wr=w4) (fun i _=>L.length-(intOf i).toNat)
     case atStart=>exact⟨0,Nat.zero_le _,rfl,aa rfl,rfl⟩
     case round =>
      obtain⟨j,hj,rfl,HA2,hw⟩:=hrel;obtain rfl:=hw;obtain⟨w4,rfl⟩:∃x:World,x=wr:=⟨wr,rfl⟩
      by_cases hjl:j<L.length
      ·obtain⟨b,off,rfl,hbl,hcl⟩:=StrsAt.cell HS.out hjl
       have hrp:=fun cap=>refplace_any w4 (some ⟨b,off,none⟩) cap L j hjl hl4 HS.out
       have hfl:=fun q=>firstAt_lt (l:=L) (q:=q) hjl
       have hts:=rA L j;rw[show L.getD j default=L[j] from by simp[hjl]] at hts;obtain⟨y,hy⟩:=ag (L[j]);rw[hy] at hcl hts;simp only[hy] at hrp hfl;have HFL:=aa hfl;have HRP:=aa hrp;have HTS:=aa hts;have HJL:=aa hjl;clear hy hrp hfl hts;obtain⟨r,hr⟩:=ag ((L.take j).any fun y_1=>decide (y_1=y));rw[hr] at HFL HTS;clear hr;go_wp2_with fail;refine(HRP.out _).mono ?_;rintro e w5 ⟨⟨q,rfl,hF⟩,rfl⟩;have hqd:=HFL.out q hF
       have hqd':decide (q<j)=r:=by rw[←hqd];simp
       clear hF
       cases r with
       | true =>
         obtain rfl:(6:Int)=Q:=by
          rw[←HQ2.out];rw[if_pos (gX (l:=(Fld.mk st lm pr vr).names) (k:=k) (p:=fun l=>cG l l.length) HLT.out (by simp only[HGE.out];exact qu (k:=j+1) HJL.out (by rw[HTS.out];simp)))]
         go_wp2_with fail;go_ret;exact⟨rfl,B4.out⟩
       | false =>
         have HA3:Hid (cG L (j+1)=false):=aa (by rw[HTS.out,HA2.out];rfl);go_wp2_with fail;go_roundw
         case rel=>exact⟨j+1,HJL.out,by go_num,HA3,(by first|trivial|rfl)⟩
         case measure=>have:=HJL.out;simp[intOf];omega
      ·obtain rfl:j=L.length:=by omega
       have HA3:=aa (bR (l:=(Fld.mk st lm pr vr).names) (p:=fun l=>cG l l.length) (k:=k) HLT.out HA.out (by simp only[HGE.out];exact HA2.out));go_wp2_with fail;go_roundw
       case rel=>first|exact⟨k+1,HLT.out,by go_num,HA3,HB4⟩|((repeat apply Exists.intro);exact⟨⟨k+1,HLT.out,by go_num,HA3,HB4⟩,rfl⟩)
       case measure=>have:=HLT.out;simp[intOf];omega
    ·obtain rfl:k=3:=by omega
     have hn:=cD (l:=(Fld.mk st lm pr vr).names) (Nat.le_refl 3) HA.out;have HQ3:Hid ((Fld.mk st lm pr vr).chkB=Q):=aa (by rw[←HQ2.out,hn];rfl);clear hn HQ2 HA;go_wp2_with fail;clear hk c0 c1 c2 c3 HNL HNM HN
     go_loopw [10] (fun i wr=>∃k:Nat,k≤st.length∧i=.int .i64 k∧Hid ((st.take k).any (fun s:Sta=>!bm s.x 0 100000)=false)∧wr=w3) (fun i _=>st.length-(intOf i).toNat)
     case atStart=>exact⟨0,Nat.zero_le _,rfl,aa rfl,rfl⟩
     case round =>
      obtain⟨k,hk,rfl,HA,hw⟩:=hrel;obtain rfl:=hw;obtain⟨w3,rfl⟩:∃x:World,x=wr:=⟨wr,rfl⟩;have c0:w3.cell? ⟨w.heap.size,0,none⟩=some (.slice aS st.length cS):=bu X3.out rfl
      by_cases hlt:k<st.length
      ·obtain⟨b,off,rfl,hbl,hcc⟩:=RecsAt.at H.out.st hlt
       have e1:=hcc 1 (by omega);rw[←B3.out.cell hbl] at e1;obtain⟨y,hy⟩:=ag (st[k]);dsimp only at e1;rw[hy] at e1;simp only[Sta.cells,List.getElem?_cons_zero,List.getElem?_cons_succ] at e1;have HLT:=aa hlt;have HY:=aa hy;clear hy hcc
       have hw:=fun W=>within3_any y.x 0 100000 W
       cases hi:bm y.x 0 100000 with
       | false =>
         rw[hi] at hw;have HI:=aa hw
         obtain rfl:(1:Int)=Q:=by
          rw[←HQ3.out];unfold Fld.chkB
          rw[if_pos (gX (l:=st) (p:=fun s=>!bm s.x 0 100000) HLT.out (by rw[HY.out,hi];rfl))]
         clear hi hw;go_wp2_with fail;refine(HI.out _).mono ?_;rintro e w5 ⟨rfl,rfl⟩;go_wp2_with fail;go_ret;exact⟨rfl,B3.out⟩
       | true =>
         rw[hi] at hw;have HI:=aa hw;have HA2:=aa (bR (p:=fun s:Sta=>!bm s.x 0 100000) HLT.out HA.out (by rw[HY.out,hi];rfl));clear hi hw;go_wp2_with fail;refine(HI.out _).mono ?_;rintro e w5 ⟨rfl,rfl⟩;go_wp2_with fail;go_roundw
         case rel=>first|exact⟨k+1,HLT.out,by go_num,HA2,(by first|trivial|rfl)⟩|((repeat apply Exists.intro);exact⟨⟨k+1,HLT.out,by go_num,HA2,(by first|trivial|rfl)⟩,rfl⟩)
         case measure=>have:=HLT.out;simp[intOf];omega
      ·obtain rfl:k=st.length:=by omega
       have hn:=cD (Nat.le_refl _) HA.out;have HQ4:Hid ((if pr.any (fun p=>!cH lm.length st.length p) then 1 else(Fld.mk st lm pr vr).chkC)=Q):=aa (by have h3:=HQ3.out;unfold Fld.chkB at h3;dsimp only at h3;rw[hn,if_neg (by simp)] at h3;exact h3);clear hn HQ3 HA;go_wp2_with fail;clear c0 hk
       go_loopw [11] (fun i wr=>∃k:Nat,k≤pr.length∧i=.int .i64 k∧Hid ((pr.take k).any (fun p:Par=>!cH lm.length st.length p)=false)∧Hid (Below w3.heap.size w3 wr)) (fun i _=>pr.length-(intOf i).toNat)
       case atStart=>exact⟨0,Nat.zero_le _,rfl,aa rfl,aa (Below.refl _ _)⟩
       case round =>
        obtain⟨k,hk,rfl,HA,HB⟩:=hrel;obtain⟨w4,rfl⟩:∃x:World,x=wr:=⟨wr,rfl⟩;have B4:=bU B3 HB.out;have X4:=aa (ac HB.out l3 X3.out);have l4:=lt_of_block X4.out;have g0:w4.cell? ⟨w.heap.size,0,none⟩=some (.slice aS st.length cS):=bu X4.out rfl;have g1:w4.cell? ⟨w.heap.size,1,none⟩=some (.slice aL lm.length cL):=bu X4.out rfl;have g2:w4.cell? ⟨w.heap.size,2,none⟩=some (.slice aP pr.length cP):=bu X4.out rfl;have g3:w4.cell? ⟨w.heap.size,3,none⟩=some (.slice aV vr.length cV):=bu X4.out rfl
        by_cases hlt:k<pr.length
        ·obtain⟨b,off,rfl,hbl,hcc⟩:=RecsAt.at H.out.pr hlt
         have e0:=hcc 0 (by omega);have e1:=hcc 1 (by omega);have e2:=hcc 2 (by omega);have e3:=hcc 3 (by omega);rw[←B4.out.cell hbl,Nat.add_zero] at e0;rw[←B4.out.cell hbl] at e1 e2 e3;obtain⟨y,hy⟩:=ag (pr[k]);dsimp only at e0 e1 e2 e3;rw[hy] at e0 e1 e2 e3;simp only[Par.cells,List.getElem?_cons_zero,List.getElem?_cons_succ] at e0 e1 e2 e3;have HLT:=aa hlt;have HY:=aa hy;clear hy hcc;have HPR:Hid (cH lm.length st.length y=(bm y.south 0 ((lm.length:Int)-2)&&bm y.wst 0 ((st.length:Int)-1)&&bm y.est 0 ((st.length:Int)-1))):=aa rfl;have HBF:=aa (show Below w.heap.size w (w4.alloc (.cells #[.string y.name,.int .i64 y.south,.int .i64 y.wst,.int .i64 y.est] 133)) from B4.out.alloc B4.out.size _);have HBR:=aa (show Below w3.heap.size w3 (w4.alloc (.cells #[.string y.name,.int .i64 y.south,.int .i64 y.wst,.int .i64 y.est] 133)) from HB.out.alloc HB.out.size _);obtain⟨ys,y0,y1,y2⟩:=y;dsimp only at e0 e1 e2 e3 HPR HBF HBR;have v1:IntKind.i64.wrap ((lm.length:Int)-2)=(lm.length:Int)-2:=IntWalk.i64_in _ (by omega);have v2:IntKind.i64.wrap ((st.length:Int)-1)=(st.length:Int)-1:=IntWalk.i64_in _ (by omega)
         have q1:=fun W=>within3_any y0 0 ((lm.length:Int)-2) W
         have q2:=fun W=>within3_any y1 0 ((st.length:Int)-1) W
         have q3:=fun W=>within3_any y2 0 ((st.length:Int)-1) W
         cases hi1:bm y0 0 ((lm.length:Int)-2) with
         | false =>
           rw[hi1] at q1;have HI1:=aa q1
           obtain rfl:(1:Int)=Q:=by
            rw[←HQ4.out,if_pos (gX (l:=pr) (p:=fun p:Par=>!cH lm.length st.length p) HLT.out (by rw[HY.out,HPR.out,hi1];rfl))]
           clear hi1 q1 q2 q3;go_wp2_with fail;refine(HI1.out _).mono ?_;rintro e w6 ⟨rfl,rfl⟩;go_wp2_with fail;go_ret;exact⟨rfl,HBF.out⟩
         | true =>
           rw[hi1] at q1;have HI1:=aa q1
           cases hi2:bm y1 0 ((st.length:Int)-1) with
           | false =>
             rw[hi2] at q2;have HI2:=aa q2
             obtain rfl:(1:Int)=Q:=by
              rw[←HQ4.out,if_pos (gX (l:=pr) (p:=fun p:Par=>!cH lm.length st.length p) HLT.out (by rw[HY.out,HPR.out,hi1,hi2];rfl))]
             clear hi1 hi2 q1 q2 q3;go_wp2_with fail;refine(HI1.out _).mono ?_;rintro e w6 ⟨rfl,rfl⟩;go_wp2_with fail;refine(HI2.out _).mono ?_;rintro e w6 ⟨rfl,rfl⟩;go_wp2_with fail;go_ret;exact⟨rfl,HBF.out⟩
           | true =>
             rw[hi2] at q2;have HI2:=aa q2
             cases hi3:bm y2 0 ((st.length:Int)-1) with
             | false =>
               rw[hi3] at q3;have HI3:=aa q3
               obtain rfl:(1:Int)=Q:=by
                rw[←HQ4.out,if_pos (gX (l:=pr) (p:=fun p:Par=>!cH lm.length st.length p) HLT.out (by rw[HY.out,HPR.out,hi1,hi2,hi3];rfl))]
               clear hi1 hi2 hi3 q1 q2 q3;go_wp2_with fail;refine(HI1.out _).mono ?_;rintro e w6 ⟨rfl,rfl⟩;go_wp2_with fail;refine(HI2.out _).mono ?_;rintro e w6 ⟨rfl,rfl⟩;go_wp2_with fail;refine(HI3.out _).mono ?_;rintro e w6 ⟨rfl,rfl⟩;go_wp2_with fail;go_ret;exact⟨rfl,HBF.out⟩
             | true =>
               rw[hi3] at q3;have HI3:=aa q3;have HA2:=aa (bR (p:=fun p:Par=>!cH lm.length st.length p) HLT.out HA.out (by rw[HY.out,HPR.out,hi1,hi2,hi3];rfl));clear hi1 hi2 hi3 q1 q2 q3;go_wp2_with fail;refine(HI1.out _).mono ?_;rintro e w6 ⟨rfl,rfl⟩;go_wp2_with fail;refine(HI2.out _).mono ?_;rintro e w6 ⟨rfl,rfl⟩;go_wp2_with fail;refine(HI3.out _).mono ?_;rintro e w6 ⟨rfl,rfl⟩;go_wp2_with fail;go_roundw
               case rel=>first|exact⟨k+1,HLT.out,by go_num,HA2,HBR⟩|((repeat apply Exists.intro);exact⟨⟨k+1,HLT.out,by go_num,HA2,HBR⟩,rfl⟩)
               case measure=>have:=HLT.out;simp[intOf];omega
        ·obtain rfl:k=pr.length:=by omega
         have hn:=cD (Nat.le_refl _) HA.out
         have hsm:=fun p (hp:p∈pr)=>oy (nL:=lm.length) (nS:=st.length) (p:=p) (by have:=hn;rw[List.any_eq_false] at this;simpa using this p hp) (by omega) (by omega)
         have HO:=aa (HO0.out w4 B4.out (by omega) (by omega) hsm);have HQ5:Hid ((if(Fld.mk st lm pr vr).ordB=false then 30 else 0)=Q):=aa (by have h3:=HQ4.out;rw[hn,if_neg (by simp),Fld.ordB_eq] at h3;exact h3);clear hn hsm HO0 HQ4;obtain⟨r,hr⟩:=ag ((Fld.mk st lm pr vr).ordB);rw[hr] at HO HQ5;clear hr
         cases r with
         | false =>
           obtain rfl:(30:Int)=Q:=by rw[←HQ5.out];rfl
           go_wp2_with fail;refine HO.out.mono ?_;rintro e w6 ⟨rfl,hb6⟩;have B6:=bU B4 hb6;clear hb6;go_wp2_with fail;go_ret;exact⟨rfl,B6.out⟩
         | true =>
           obtain rfl:(0:Int)=Q:=by rw[←HQ5.out];rfl
           go_wp2_with fail;refine HO.out.mono ?_;rintro e w6 ⟨rfl,hb6⟩;have B6:=bU B4 hb6;clear hb6;go_wp2_with fail;go_ret;exact⟨rfl,B6.out⟩
theorem guard46 (op:BinOp) (x y:Operand) (xs ys:Array Value) (w:World):(eqGuard op 46 x y (.agg xs) (.agg ys)).run prog w=.ok () w:=run_eqGuard_agg w op 46 x y xs ys (by kernel_rfl)
theorem eql46b (a b:Crs) (w:World):(binOp .eql 46 (.agg a.vals) (.agg b.vals)).run prog w=.ok (.bool (decide (a=b))) w:=by
 rw[run_eql_struct,BA (d:=9997)]
 rfl
theorem rpoint_any (w:World) (x:FV) (F:Fld) (l s:Int) (hs:F.sts.length≤1000) (h0:0≤l) (h1:l≤1000) (h2:0≤s) (h3:s≤1000) :
 Calls prog 168 #[x.val F,.int .i64 l,.int .i64 s] w fun e w'=>e=.returned (.int .i64 (eE F l s))∧Below w.heap.size w w':=by
 obtain⟨m1,m2⟩:=vM hs h0 h1 h2 h3;unfold eE FV.val FV.arr;go_enter func168,ntmps168;go_wp2_with fail;go_ret;exact⟨rfl,by go_grown⟩
theorem rcorner_any (w:World) (x:FV) (F:Fld) (l s:Int) (hl:F.lms.length≤4000) (hs:F.sts.length≤4000) :
 Calls prog 219 #[x.val F,.int .i64 l,.int .i64 s] w fun e w'=>e=.returned (.bool (bZ F l&&aY F s))∧Below w.heap.size w w':=by
 have H1:=aa (fun W=>within3_any l 0 ((F.lms.length:Int)-1) W);have H2:=aa (fun W=>within3_any s 0 ((F.sts.length:Int)-1) W);unfold bZ aY FV.val FV.arr;obtain⟨p,hp⟩:=ag (bm l 0 ((F.lms.length:Int)-1));obtain⟨q,hq⟩:=ag (bm s 0 ((F.sts.length:Int)-1));rw[hp] at H1 ⊢;rw[hq] at H2 ⊢;clear hp hq;cases p
 rotate_left
 all_goals
  go_enter func219,ntmps219;go_wp2_with (go_at_call 165;(first|with_reducible refine(H1.out _).mono ?_|with_reducible refine(H2.out _).mono ?_);rintro e w1 ⟨rfl,rfl⟩);go_ret;exact⟨by simp,by go_grown⟩
theorem two_boxes (w:World) (x:FV) (F:Fld) (c:Cll):Below w.heap.size w ((w.alloc (.cells (x.arr F) 27)).alloc (.cells c.vals 48))∧Kb [(w.heap.size+1,.cells c.vals 48),(w.heap.size,.cells (x.arr F) 27)] ((w.alloc (.cells (x.arr F) 27)).alloc (.cells c.vals 48)) :=
 ⟨(aD).alloc (by simp) _,by
   have:=Kb.alloc (o:=.cells c.vals 48) (Kb.alloc (W:=w) (o:=.cells (x.arr F) 27) (L:=[]) trivial)
   simpa using this⟩
theorem rrun_any (w:World) (x:FV) (F:Fld) (c:Cll) (hF:F.check=0) (h:FldAt w x F) (h1:aY F c.fr=true) (h2:aY F c.tt=true) :
 Calls prog 239 #[x.val F,c.val] w fun e w'=>e=.returned (.int .i64 (oX F c))∧Below w.heap.size w w':=by
 have hb:=z7 hF h1 h2;have hl:=(bb hF).1;obtain⟨w0,hw0⟩:∃W,W=(w.alloc (.cells (x.arr F) 27)).alloc (.cells c.vals 48):=⟨_,rfl⟩;have B0:=aa (hw0▸(two_boxes w x F c).1);have X0:=aa (hw0▸(two_boxes w x F c).2);have kc:=ak X0.out.1;have kf9Q:=ak X0.out.2.1;have h0:FldAt w0 x F:=h.below B0.out;obtain⟨n,b,off,e1,hn,e2,hbb,c1⟩:=zH h0 h1;obtain⟨m,b',off',e1',hm,e2',_,c2⟩:=zH h0 h2;rw[e2] at e2';cases e2';unfold oX at hb ⊢;obtain⟨X,hX⟩:=ag ((F.sts.getD c.fr.toNat js).x);obtain⟨Y,hY⟩:=ag ((F.sts.getD c.tt.toNat js).x);rw[hX] at hb c1 ⊢;rw[hY] at hb c2 ⊢;unfold Cll.val;unfold FV.arr at kf9Q;unfold Cll.vals at kc;rw[e1,e1'] at kc;rw[e2] at kf9Q;have kw:IntKind.i64.wrap (Y-X)=Y-X:=IntWalk.i64_in _ (by omega)
 have d1:decide ((n:Int)<(F.sts.length:Int))=true:=by simp;omega
 have d2:decide ((m:Int)<(F.sts.length:Int))=true:=by simp;omega
 clear h h0 hX hY h1 h2 e1 e1' e2 hF;go_enter func239,ntmps239;go_upto_region 1 with fail;unfold FV.val;rw[←hw0];clear hw0
 go_quiet (fail)
 go_wp2_with fail;go_ret;exact⟨rfl,B0.out.trans (aA _ _)⟩
theorem rpair_any (w:World) (p q lo hi r:Int) (hlo:-1000000≤lo∧lo≤1000000) :
 Calls prog 237 #[.int .i64 p,.int .i64 q,.int .i64 lo,.int .i64 hi,.int .i64 r] w fun e w'=>e=.returned (.slice (some ⟨w.heap.size,0,none⟩) 2 2)∧w'=w.alloc (.cells (bh (eG p q lo hi r)).toArray 65):=by
 go_enter func237,ntmps237;go_wp2_with (refine Great.wpList_buildSliceTo rfl 59 65 2 _ rfl _ rfl _ rfl underlying59 #[.int .i64 p,.int .i64 q,.int .i64 hi,.int .i64 r,.int .i64 q,.int .i64 p,.int .i64 (-lo),.int .i64 r] (by simp[Act.eval];kernel_rfl) ?_);go_ret;exact⟨rfl,rfl⟩
theorem rtable_any (w:World) (x:FV) (F:Fld) (c:Cll) (hl:F.lms.length≤4000) (hs:F.sts.length≤4000) (hk:0≤c.kind∧c.kind≤255) :
 Calls prog 277 #[x.val F,c.val] w fun e w'=>e=.returned (.bool (tableR F c))∧Below w.heap.size w w':=by
 obtain⟨w0,hw0⟩:∃W,W=(w.alloc (.cells (x.arr F) 27)).alloc (.cells c.vals 48):=⟨_,rfl⟩;have B0:=aa (hw0▸(two_boxes w x F c).1);have X0:=aa (hw0▸(two_boxes w x F c).2);have HC:=aa (fun W=>rcorner_any W x F c.limit c.fr hl hs);have HE:=aa (fun W=>within3_any c.er 0 100000 W);have HS1:=aa (fun W=>within3_any c.sz 0 100000 W);have HS2:=aa (fun W=>within3_any c.sz (-100000) 100000 W);have HT:=aa (fun W=>within3_any c.tt 0 ((F.sts.length:Int)-1) W);obtain⟨R,hR⟩:=ag (tableR F c);rw[hR];unfold tableR at hR;obtain⟨pc9Q,hpc⟩:=ag (bZ F c.limit&&aY F c.fr);obtain⟨pe,hpe⟩:=ag (bm c.er 0 100000);obtain⟨s1,hs1⟩:=ag (bm c.sz 0 100000);obtain⟨s2,hs2⟩:=ag (bm c.sz (-100000) 100000);obtain⟨pt,hpt⟩:=ag (bm c.tt 0 ((F.sts.length:Int)-1));rw[hpc] at HC hR;rw[hpe] at HE hR;rw[hs1] at HS1 hR;rw[hs2] at HS2 hR;rw[hpt] at HT hR
 have XE:=fun(W:World)=>eql46b c.crs crs0 W
 have XG:=fun(op:BinOp) (x y:Operand) (xs ys:Array Value) (W:World)=>guard46 op x y xs ys W
 obtain⟨q,hq⟩:=ag (decide (c.crs=crs0));rw[hq] at hR XE;obtain⟨oth,hoth⟩:=ag (decide (c.limit<c.other)&&decide (c.other<F.lms.length));rw[hoth] at hR;obtain⟨kind,limit,other,fr,tt,sz,er,c1,c2,c3,c4,c5,c6⟩:=c;have HO:=aa hoth;have HR:=aa hR;clear hR hpc hpe hs1 hs2 hpt hq hoth;unfold crs0 Crs.vals at XE
 unfold Cll.val Cll.vals FV.val FV.arr at *
 dsimp only at *
 have kc:=ak X0.out.1;have kf9Q:=ak X0.out.2.1;go_enter func277,ntmps277;go_upto_region 1 with fail;rw[←hw0];clear hw0;go_upto_region 2 with fail
 go_cut [6] (fun t wx=>t=.bool oth∧wx=w0)
 case first =>
  have ho:=HO.out
  by_cases o1:limit<other
  ·by_cases o2:other<(F.lms.length:Int)
   ·have d1:decide (limit<other)=true:=by simpa using o1
    have d2:decide (other<(F.lms.length:Int))=true:=by simpa using o2
    rw[d1,d2] at ho;subst ho;clear HO;go_wp2_with fail;go_meet;exact⟨rfl,rfl⟩
   ·have d1:decide (limit<other)=true:=by simpa using o1
    have d2:decide (other<(F.lms.length:Int))=false:=by simpa using o2
    rw[d1,d2] at ho;subst ho;clear HO;go_wp2_with fail;go_meet;exact⟨rfl,rfl⟩
  ·have d1:decide (limit<other)=false:=by simpa using o1
   rw[d1,Bool.false_and] at ho;subst ho;clear HO;go_wp2_with fail;go_meet;exact⟨rfl,rfl⟩
 case rest =>
 obtain⟨rfl,rfl⟩:=hcut;go_wp2_with fail;refine(HC.out _).mono ?_;rintro e w1 ⟨rfl,hb1⟩;have X1:=aa (X0.out.next hb1);have B1:=bU B0 hb1;clear hb1 X0 B0 HC kc kf9Q;have kc:=ak X1.out.1;have kf9Q:=ak X1.out.2.1;cases pc9Q
 ·obtain rfl:R=false:=by rw[←HR.out,if_pos (by simp)]
  go_wp2_with fail;go_ret;exact⟨rfl,B1.out⟩
 go_wp2_with fail;refine(HE.out _).mono ?_;rintro e w2 ⟨rfl,rfl⟩;cases pe
 ·obtain rfl:R=false:=by rw[←HR.out,if_pos (by simp)]
  go_wp2_with fail;go_ret;exact⟨rfl,B1.out⟩
 have hR:=HR.out;rw[if_neg (by simp)] at hR;have HR2:=aa hR;clear HR hR HO HE;go_upto_region 6 with fail
 by_cases k1:kind=1
 ·subst k1
  have hR:=HR2.out;simp only[↓reduceIte] at hR;clear HR2;cases q
  ·obtain rfl:R=false:=by rw[←hR];simp
   go_wp2_with fail;go_ret;exact⟨rfl,B1.out⟩
  by_cases t3:other=0
  rotate_left
  ·obtain rfl:R=false:=by rw[←hR];simp[t3]
   go_wp2_with fail;go_ret;exact⟨rfl,B1.out⟩
  by_cases t2:tt=0
  rotate_left
  ·obtain rfl:R=false:=by rw[←hR];simp[t2]
   go_wp2_with fail;go_ret;exact⟨rfl,B1.out⟩
  cases s1
  ·obtain rfl:R=false:=by rw[←hR];simp
   go_wp2_with (go_at_call 165;(first|with_reducible refine(HT.out _).mono ?_|with_reducible refine(HS1.out _).mono ?_|with_reducible refine(HS2.out _).mono ?_);rintro e w2 ⟨rfl,rfl⟩);go_ret;exact⟨rfl,B1.out⟩
  obtain rfl:R=true:=by rw[←hR];simp[*]
  go_wp2_with (go_at_call 165;(first|with_reducible refine(HT.out _).mono ?_|with_reducible refine(HS1.out _).mono ?_|with_reducible refine(HS2.out _).mono ?_);rintro e w2 ⟨rfl,rfl⟩);go_ret;exact⟨rfl,B1.out⟩
 by_cases k2:kind=2
 ·subst k2
  have hR:=HR2.out;simp only[↓reduceIte,Int.reduceEq] at hR;clear HR2;cases q
  ·obtain rfl:R=false:=by rw[←hR];simp
   go_wp2_with fail;go_ret;exact⟨rfl,B1.out⟩
  cases oth
  ·obtain rfl:R=false:=by rw[←hR];simp
   go_wp2_with fail;go_ret;exact⟨rfl,B1.out⟩
  by_cases t2:tt=0
  rotate_left
  ·obtain rfl:R=false:=by rw[←hR];simp[t2]
   go_wp2_with fail;go_ret;exact⟨rfl,B1.out⟩
  cases s1
  ·obtain rfl:R=false:=by rw[←hR];simp
   go_wp2_with (go_at_call 165;(first|with_reducible refine(HT.out _).mono ?_|with_reducible refine(HS1.out _).mono ?_|with_reducible refine(HS2.out _).mono ?_);rintro e w2 ⟨rfl,rfl⟩);go_ret;exact⟨rfl,B1.out⟩
  obtain rfl:R=true:=by rw[←hR];simp[*]
  go_wp2_with (go_at_call 165;(first|with_reducible refine(HT.out _).mono ?_|with_reducible refine(HS1.out _).mono ?_|with_reducible refine(HS2.out _).mono ?_);rintro e w2 ⟨rfl,rfl⟩);go_ret;exact⟨rfl,B1.out⟩
 by_cases k3:kind=3
 ·subst k3
  have hR:=HR2.out;simp only[↓reduceIte,Int.reduceEq] at hR;clear HR2
  by_cases t5:other=0
  rotate_left
  ·obtain rfl:R=false:=by rw[←hR];simp[t5]
   go_wp2_with fail;go_ret;exact⟨rfl,B1.out⟩
  by_cases t4:sz=0
  rotate_left
  ·obtain rfl:R=false:=by rw[←hR];simp[t4]
   go_wp2_with fail;go_ret;exact⟨rfl,B1.out⟩
  by_cases t3:er=0
  rotate_left
  ·obtain rfl:R=false:=by rw[←hR];simp[t3]
   go_wp2_with fail;go_ret;exact⟨rfl,B1.out⟩
  cases pt
  ·obtain rfl:R=false:=by rw[←hR];simp
   go_wp2_with (go_at_call 165;(first|with_reducible refine(HT.out _).mono ?_|with_reducible refine(HS1.out _).mono ?_|with_reducible refine(HS2.out _).mono ?_);rintro e w2 ⟨rfl,rfl⟩);go_ret;exact⟨rfl,B1.out⟩
  by_cases t1:¬tt=fr
  rotate_left
  ·obtain rfl:R=false:=by rw[←hR];simp[t1]
   have t1b:(tt != fr)=false:=by simpa using t1
   go_wp2_with (go_at_call 165;(first|with_reducible refine(HT.out _).mono ?_|with_reducible refine(HS1.out _).mono ?_|with_reducible refine(HS2.out _).mono ?_);rintro e w2 ⟨rfl,rfl⟩);go_ret;exact⟨rfl,B1.out⟩
  have t1b:(tt != fr)=true:=by simpa using t1
  obtain rfl:R=true:=by rw[←hR];simp[*]
  go_wp2_with (go_at_call 165;(first|with_reducible refine(HT.out _).mono ?_|with_reducible refine(HS1.out _).mono ?_|with_reducible refine(HS2.out _).mono ?_);rintro e w2 ⟨rfl,rfl⟩);go_ret;exact⟨rfl,B1.out⟩
 by_cases k4:kind=4
 ·subst k4
  have hR:=HR2.out;simp only[↓reduceIte,Int.reduceEq] at hR;clear HR2;cases q
  ·obtain rfl:R=false:=by rw[←hR];simp
   go_wp2_with fail;go_ret;exact⟨rfl,B1.out⟩
  cases oth
  ·obtain rfl:R=false:=by rw[←hR];simp
   go_wp2_with fail;go_ret;exact⟨rfl,B1.out⟩
  by_cases t4:sz=0
  rotate_left
  ·obtain rfl:R=false:=by rw[←hR];simp[t4]
   go_wp2_with fail;go_ret;exact⟨rfl,B1.out⟩
  by_cases t3:er=0
  rotate_left
  ·obtain rfl:R=false:=by rw[←hR];simp[t3]
   go_wp2_with fail;go_ret;exact⟨rfl,B1.out⟩
  by_cases t2:fr<tt
  rotate_left
  ·obtain rfl:R=false:=by rw[←hR];simp[t2]
   go_wp2_with fail;go_ret;exact⟨rfl,B1.out⟩
  by_cases t1:tt<(F.sts.length:Int)
  rotate_left
  ·obtain rfl:R=false:=by rw[←hR];simp[t1]
   go_wp2_with fail;go_ret;exact⟨rfl,B1.out⟩
  obtain rfl:R=true:=by rw[←hR];simp[*]
  go_wp2_with fail;go_ret;exact⟨rfl,B1.out⟩
 by_cases k5:kind=5
 ·subst k5
  have hR:=HR2.out;simp only[↓reduceIte,Int.reduceEq] at hR;clear HR2;cases q
  ·obtain rfl:R=false:=by rw[←hR];simp
   go_wp2_with fail;go_ret;exact⟨rfl,B1.out⟩
  by_cases t4:other=0
  rotate_left
  ·obtain rfl:R=false:=by rw[←hR];simp[t4]
   go_wp2_with fail;go_ret;exact⟨rfl,B1.out⟩
  cases pt
  ·obtain rfl:R=false:=by rw[←hR];simp
   go_wp2_with (go_at_call 165;(first|with_reducible refine(HT.out _).mono ?_|with_reducible refine(HS1.out _).mono ?_|with_reducible refine(HS2.out _).mono ?_);rintro e w2 ⟨rfl,rfl⟩);go_ret;exact⟨rfl,B1.out⟩
  by_cases t2:¬tt=fr
  rotate_left
  ·obtain rfl:R=false:=by rw[←hR];simp[t2]
   have t2b:(tt != fr)=false:=by simpa using t2
   go_wp2_with (go_at_call 165;(first|with_reducible refine(HT.out _).mono ?_|with_reducible refine(HS1.out _).mono ?_|with_reducible refine(HS2.out _).mono ?_);rintro e w2 ⟨rfl,rfl⟩);go_ret;exact⟨rfl,B1.out⟩
  have t2b:(tt != fr)=true:=by simpa using t2
  cases s2
  ·obtain rfl:R=false:=by rw[←hR];simp
   go_wp2_with (go_at_call 165;(first|with_reducible refine(HT.out _).mono ?_|with_reducible refine(HS1.out _).mono ?_|with_reducible refine(HS2.out _).mono ?_);rintro e w2 ⟨rfl,rfl⟩);go_ret;exact⟨rfl,B1.out⟩
  obtain rfl:R=true:=by rw[←hR];simp[*]
  go_wp2_with (go_at_call 165;(first|with_reducible refine(HT.out _).mono ?_|with_reducible refine(HS1.out _).mono ?_|with_reducible refine(HS2.out _).mono ?_);rintro e w2 ⟨rfl,rfl⟩);go_ret;exact⟨rfl,B1.out⟩
 have hR:=HR2.out;simp only[k1,k2,k3,k4,k5,if_false] at hR;subst hR;clear HR2;go_wp2_with fail;go_ret;exact⟨rfl,B1.out⟩
theorem checkR_any (w:World) (x:FV) (F:Fld) (ar:Option Addr) (cr:Nat) (l:List Rcd) (h:FldAt w x F) (hr:cI w ar l) (hn:l.length≤100000) (hk:∀r∈l,(0≤r.call.kind∧r.call.kind≤255)∧r.deed.size≤9223372036854775807) :
 Calls prog 28 #[x.val F,.slice ar l.length cr] w fun e w'=>e=.returned (.tuple #[.int .i64 (cm F l).1,.int .i64 (cm F l).2])∧Below w.heap.size w w':=by
 obtain⟨w0,hw0⟩:∃W,W=w.alloc (.cells (x.arr F) 27):=⟨_,rfl⟩;have B0:=aa (show Below w.heap.size w w0 by rw[hw0];exact aD);have X0:=aa (show Kb [(w.heap.size,.cells (x.arr F) 27)] w0 by rw[hw0];exact Kb.alloc trivial);have HC:=aa (qY w0 x F ar cr l (h.below B0.out) (hr.below B0.out (Nat.le_refl _)) hn hk);obtain⟨⟨r1,r2⟩,hR⟩:=ag (cm F l);rw[hR] at HC ⊢;clear hR h hr hn hk;have kk:=ak X0.out.1
 unfold FV.val FV.arr at *
 go_enter func28,ntmps28;go_upto_region 1 with fail;rw[←hw0];clear hw0;go_wp2_with fail;refine HC.out.mono ?_;rintro e w1 ⟨⟨v,rfl,hv⟩,hb1⟩;have B1:=bU B0 hb1;clear hb1 HC X0 kk hv;go_wp2_with fail;go_ret2;exact⟨rfl,B1.out⟩
theorem results_cell_two {P:Program} {fn:Func} {p u:Tmp} {ty:TypeId} (h:fn.results=#[.cell p ty,.tmp u]) (tmps:Array Value) (w:World) (g:Nat) (t:TypeId) (cs:Array Value) (fr:Nat×Nat) (d:TypeDesc)
 (hp:tmps.getD p undef=.pointer (some ⟨g,0,none⟩)) (hg:w.heap[g]?=some (.cells cs t fr))
 (hu:P.underlying ty=some d) (hd:(match d with|.struct _|.array _ _=>true|_=>false)=true) (hi:(P.info? ty).map (·.size)=some cs.size) :
 (results fn tmps).run P w=.ok (.tuple #[.agg cs,tmps.getD u undef]) w:=by
 have hp':tmps[p]?.getD undef=.pointer (some ⟨g,0,none⟩):=by simpa using hp
 simp[results,h,hp',asAddr,run_loadVar_row w g t ty cs fr d hg hu hd hi]
def SystPost (w:World) (F:Fld) (l:List Rcd) (err:Int) (e:Ending) (w':World):Prop :=
 if err=0 then ∃o c,e=.returned (.tuple #[.agg #[.int .i64 (bj F),.slice o (aj F l).length c],.int .i64 0])∧w'.ownsRow w.heap.size 65 4 (.slice o (aj F l).length c) (aj F l).length (bh (aj F l))
 else e=.returned (.tuple #[.agg #[.int .i64 0,.slice none 0 0],.int .i64 err])
theorem system_any (w:World) (x:FV) (F:Fld) (ar:Option Addr) (cr:Nat) (l:List Rcd) (h:FldAt w x F) (hr:cI w ar l) (hn:l.length≤100000) (hk:∀r∈l,(0≤r.call.kind∧r.call.kind≤255)∧r.deed.size≤9223372036854775807) :
 Calls prog 33 #[x.val F,.slice ar l.length cr] w fun e w'=>SystPost w F l (cm F l).2 e w'∧Below w.heap.size w w':=by
 obtain⟨w0,hw0⟩:∃W,W=(w.alloc (.cells (x.arr F) 27)).alloc (.cells #[.int .i64 0,.slice none 0 0] 61):=⟨_,rfl⟩;have B0:=aa (show Below w.heap.size w w0 by rw[hw0];exact(aD).alloc (by simp) _)
 have X0:=aa (show Kb [(w.heap.size+1,.cells #[.int .i64 0,.slice none 0 0] 61),(w.heap.size,.cells (x.arr F) 27)] w0 by
  rw[hw0];have:=Kb.alloc (o:=.cells #[.int .i64 0,.slice none 0 0] 61) (Kb.alloc (W:=w) (o:=.cells (x.arr F) 27) (L:=[]) trivial)
  simpa using this)
 have HSZ:=aa (show w0.heap.size=w.heap.size+2 by rw[hw0];simp);have HC:=aa (rW w0 x F ar cr l (h.below B0.out) (hr.below B0.out (Nat.le_refl _)) hn hk);obtain⟨r2,hR⟩:=ag ((cm F l).2);rw[hR] at HC ⊢;clear hR h hr hn hk;have kk:=ak X0.out.2.1
 unfold FV.val FV.arr at *
 go_enter func33,ntmps33;go_upto_region 1 with fail;rw[←hw0];clear hw0;go_wp2_with fail;refine HC.out.mono ?_;rintro e w1 ⟨hp,hb1⟩;have B1:=bU B0 hb1;have X1:=aa (X0.out.next hb1);unfold iY at hp;clear hb1 HC X0 kk;have ks:=ak X1.out.1;have hfz:w1.frozen? ⟨w.heap.size+1,0,none⟩=false:=frozen_of_row _ _ _ _ _ X1.out.1
 by_cases h0:r2=0
 rotate_left
 ·have hzb:(r2 != 0)=true:=by simpa using h0
  rw[if_neg h0] at hp;subst hp;have H0:=aa h0;clear h0;go_wp2_with (first|(refine wpList_store_row rfl 61 _ _ rfl (w.heap.size+1) #[.int .i64 0,.slice none 0 0] rfl rfl 61 _ X1.out.1 (by kernel_rfl) rfl (by simp[Value.oneCell']) ?_));refine bodyPost_ret (results_cell_two results33 _ _ (w.heap.size+1) 61 #[.int .i64 0,.slice none 0 0] (0,0) _ rfl (setRow_heap _ _ _ _ _ _ X1.out.1) underlying61 rfl (by kernel_rfl)) rfl ⟨?_,below_setRow B1.out (by omega) _⟩;unfold SystPost;rw[if_neg H0.out]
  rfl
 subst h0;rw[if_pos rfl] at hp;obtain⟨b,o,c,rfl,hw,hbl,hown⟩:=hp;have HW:=aa hw;have HO:=aa hown;have kw:=ak hw.box;unfold WV.arr at kw;have HBL:=aa hbl;obtain⟨P,hP⟩:∃P:Int,((bj F:Nat):Int)=P:=⟨_,rfl⟩;rw[hP] at kw;have HPE:=aa hP;obtain⟨LN,hLN⟩:=ag ((aj F l).length);have HLN:=aa hLN;rw[hLN] at kw;clear hP hLN hw hown hbl;go_wp2_with (first|(refine wpList_store_row rfl 61 _ _ rfl (w.heap.size+1) #[.int .i64 P,.slice o LN c] rfl rfl 61 _ X1.out.1 (by kernel_rfl) rfl (by simp[Value.oneCell']) ?_));refine bodyPost_ret (results_cell_two results33 _ _ (w.heap.size+1) 61 #[.int .i64 P,.slice o LN c] (0,0) _ rfl (setRow_heap _ _ _ _ _ _ X1.out.1) underlying61 rfl (by kernel_rfl)) rfl ⟨?_,below_setRow B1.out (by omega) _⟩;unfold SystPost;rw[if_pos rfl,HPE.out,HLN.out];have q:=av (W':=w1.setRow (w.heap.size+1) #[.int .i64 P,.slice o LN c]) HO.out (fun g hg=>setRow_other _ _ _ _ (by have:=(jh HO.out hg).2.1;have:=HSZ.out;omega));have q2:=q.mono (show w.heap.size≤w0.heap.size by rw[HSZ.out];omega);rw[HLN.out] at q2;exact⟨o,c,rfl,q2⟩
attribute [local go_sem] Oper.semAt_some
theorem ymid {P:Program} {o:Oper} {a:Act} {V:World} {ty:TypeId} {x:Operand} {b off:Nat} {cs:List Value} {d:TypeDesc} (ho:o.op=.load ty x) (hx:a.eval x=.pointer (some ⟨b,off,none⟩)) (hc:V.rangeAt b off cs)
 (hu:P.underlying ty=some d) (hd:d.isRow=true) (hi:(P.info? ty).map (·.size)=some cs.length):(execOp a.eval o).run P V=.ok (.value (.agg cs.toArray)) V:=by
 unfold execOp;simp only[ho,hx,Instr.loadAt,Instr.sureAddr,Sem.run_bind,Sem.run_pure,Result.andThen_ok,run_loadVar_mid V b off ty cs d hc hu hd hi]
theorem itvV_eq (r:Option (Int×Int)×Int):il r=.tuple #[.int .i64 (r.1.getD (0,0)).1,.int .i64 (r.1.getD (0,0)).2,.bool r.1.isSome,.int .i64 r.2]:=by
 obtain⟨a,b⟩:=r
 cases a<;>rfl
theorem crs_mid {V:World} {b:Nat} {c:Cll} (h:V.heap[b]?=some (.cells c.vals 48 (0,0))):V.rangeAt b 7 c.crs.vals.toList :=
 kH h rfl
theorem table_facts {F:Fld} {c:Cll} (h:tableR F c=true):bZ F c.limit=true∧aY F c.fr=true∧(c.kind=3→aY F c.tt=true):=by
 unfold tableR at h
 by_cases h0:(bZ F c.limit&&aY F c.fr)=false∨bm c.er 0 100000=false
 ·rw[if_pos h0] at h;cases h
 rw[if_neg h0] at h
 have h1:(bZ F c.limit&&aY F c.fr)=true:=by
  cases q:(bZ F c.limit&&aY F c.fr)
  ·exact absurd (.inl q) h0
  ·rfl
 rw[Bool.and_eq_true] at h1;refine⟨h1.1,h1.2,fun k=>?_⟩;unfold aY;simp only[k] at h;simp at h;exact h.1.2
theorem rcheckCall_any (w:World) (x:FV) (F:Fld) (c:Cll) (hF:F.check=0) (h:FldAt w x F) (hk:0≤c.kind∧c.kind≤255) :
 Calls prog 236 #[x.val F,c.val] w fun e w'=>e=.returned (.int .i64 (dP F c))∧Below w.heap.size w w':=by
 have ff:=bb hF;have hvr:bz F.vrs=0:=ff.2.2.2.1;rw[←call_ref hvr c];unfold callR;rw[itv_ref];obtain⟨w0,hw0⟩:∃W,W=(w.alloc (.cells (x.arr F) 27)).alloc (.cells c.vals 48):=⟨_,rfl⟩;have B0:=aa (hw0▸(two_boxes w x F c).1);have X0:=aa (hw0▸(two_boxes w x F c).2);have HT:=aa (fun W=>rtable_any W x F c (by omega) (by omega) hk);have HO:=aa (fun W=>rcourse_any c.crs W);have HF:=aa (fun W (hb:Below w.heap.size w W)=>h.below hb);have HRN:=aa (fun(q:tableR F c=true) (k:c.kind=3) W (hb:Below w.heap.size w W)=>rrun_any W x F c hF (h.below hb) (table_facts q).2.1 ((table_facts q).2.2 k));have HI:=aa (fun W (hb:Below w.heap.size w W)=>(itvV_eq (lD F.vrs c.crs (oX F c)))▸ritv_any W x.aV x.cV F.vrs c.crs (oX F c) (by have:=h.lv;omega) (h.below hb).vr);obtain⟨T,hT⟩:=ag (tableR F c);obtain⟨ok,hok⟩:=ag c.crs.ok;obtain⟨⟨I1,I2⟩,hI⟩:=ag (lD F.vrs c.crs (oX F c));obtain⟨R,hR⟩:=ag (oX F c);rw[hT] at HT HRN ⊢;rw[hok] at HO ⊢;rw[hI] at HI ⊢;rw[hR] at HI HRN;dsimp only at HI ⊢;obtain⟨lo,hlo⟩:=ag ((I1.getD (0,0)).1);obtain⟨hi,hhi⟩:=ag ((I1.getD (0,0)).2);obtain⟨is,his⟩:=ag I1.isSome;rw[hlo,hhi,his] at HI;have HIS:=aa his;clear hT hok hI hR hlo hhi ff hvr hF h his;have HCM:=aa (fun(V:World) (hV:V.heap[w.heap.size+1]?=some (.cells c.vals 48 (0,0)))=>crs_mid hV);have kc:=ak X0.out.1;obtain⟨kind,limit,other,fr,tt,sz,er,c1,c2,c3,c4,c5,c6⟩:=c;unfold Cll.vals at kc;unfold Crs.vals at HCM
 dsimp only at *
 obtain⟨Z,hZ⟩:∃r:Int,(if T=false then 1 else if kind≠3 then 0 else if ok=false then 1 else if I2≠0 then I2 else if I1=none then 5 else 0)=r:=⟨_,rfl⟩;rw[hZ];go_enter func236,ntmps236;go_upto_region 1 with fail;unfold FV.val Cll.val;rw[←hw0];clear hw0;refine wp_region_list ?_;refine ah rfl 27 _ rfl _ rfl w.heap.size rfl 27 _ (0,0) _ X0.out.2.1 underlying27 rfl (by kernel_rfl) ?_;refine ah rfl 48 _ rfl _ rfl (w.heap.size+1) rfl 48 _ (0,0) _ X0.out.1 underlying48 rfl (by kernel_rfl) ?_;simp only[Act.put,sA,sB,sC];go_wp2_with fail;refine(HT.out _).mono ?_;rintro e w1 ⟨rfl,hb1⟩;have X1:=aa (X0.out.next hb1);have B1:=bU B0 hb1;clear hb1 X0 B0 HT kc;have kc:=ak X1.out.1;unfold Cll.vals at kc;dsimp only at kc;cases T
 ·rw[if_pos rfl] at hZ
  subst hZ;go_wp2_with fail;go_ret;exact⟨rfl,B1.out⟩
 rw[if_neg (by simp)] at hZ;have HRN2:=aa (HRN.out rfl);clear HRN
 by_cases h3:kind=3
 rotate_left
 ·rw[if_pos h3] at hZ
  subst hZ;go_wp2_with fail;go_ret;exact⟨rfl,B1.out⟩
 subst h3;rw[if_neg (by simp)] at hZ;have HZ:=aa hZ;clear hZ;have HRN3:=aa (HRN2.out rfl);clear HRN2;unfold Crs.val Crs.vals at HO;dsimp only at HO;go_wp2_with fail;refine(HO.out _).mono ?_;rintro e w2 ⟨rfl,hb2⟩;have X2:=aa (X1.out.next hb2);have B2:=bU B1 hb2;clear hb2 X1 B1 HO kc;have hZ:=HZ.out;clear HZ;cases ok
 ·rw[if_pos rfl] at hZ
  subst hZ;simp only[reduceCtorEq,↓reduceIte];go_wp2_with fail;go_ret;exact⟨rfl,B2.out⟩
 rw[if_neg (by simp)] at hZ;have HZ:=aa hZ;clear hZ;simp only[↓reduceIte];unfold Cll.val FV.val at HRN3;unfold Crs.val Crs.vals at HI;dsimp only at HI;go_upto_region 8 with fail
 go_cut [8,9] (fun t u wx=>t=.bool is∧u=.int .i64 I2∧Hid (Below w2.heap.size w2 wx))
 case first =>
  refine aJ (S:=Below w2.heap.size w2) (last:=100) (by kernel_rfl) ?_;obtain⟨W0,hW0⟩:∃W,W=w2.drew:=⟨_,rfl⟩
  have hS0:Below w2.heap.size w2 W0:=by rw[hW0];exact(Below.refl _ _).drew
  rw[←hW0];clear hW0;refine aR 0 24 (.pointer (some ⟨w.heap.size,3,none⟩)) hS0 ?_;(try simp only[s3]);refine tf 1 25 (.slice x.aV F.vrs.length x.cV) hS0 (fun V hV=>?_) ?_
  ·(have z:=ak (X2.out.next hV).2.1 3;unfold FV.arr at z;simp[go_sem,execOp,z])
  (try simp only[s3]);refine aR 2 26 (.pointer (some ⟨(w.heap.size+1),7,none⟩)) hS0 ?_;(try simp only[s3]);refine tf 3 27 (.agg #[.int .i64 c1,.int .i64 c2,.int .i64 c3,.int .i64 c4,.int .i64 c5,.int .i64 c6]) hS0 (fun V hV=>?_) ?_
  ·exact ymid rfl rfl (HCM.out V (X2.out.next hV).1) underlying46 rfl (by kernel_rfl)
  (try simp only[s3]);refine tf 4 28 (.agg (x.arr F)) hS0 (fun V hV=>?_) ?_
  ·exact gp rfl rfl (X2.out.next hV).2.1 underlying27 rfl (by kernel_rfl)
  (try simp only[s3]);refine tf 5 29 (.agg (Cll.mk 3 limit other fr tt sz er ⟨c1,c2,c3,c4,c5,c6⟩).vals) hS0 (fun V hV=>?_) ?_
  ·exact gp rfl rfl (X2.out.next hV).1 underlying48 rfl (by kernel_rfl)
  (try simp only[s3]);refine ae 6 rfl (by kernel_rfl) (fun K hK=>?_);go_simp;go_at_call 239;refine(HRN3.out _ (bB B2.out hS0)).mono ?_;rintro e wq1 ⟨rfl,hq1⟩;have hS1:Below w2.heap.size w2 wq1:=bB hS0 hq1;clear hq1;go_wp2_with fail;refine hK.out _ _ (.inr hS1) ?_;clear hK K;(try simp only[Act.put,s3]);refine ae 7 rfl (by kernel_rfl) (fun K hK=>?_);go_simp;go_at_call 238;refine(HI.out _ (bB B2.out hS1)).mono ?_;rintro e wq2 ⟨rfl,hq2⟩;have hS2:Below w2.heap.size w2 wq2:=bB hS1 hq2;clear hq2;go_wp2_with fail;refine hK.out _ _ (.inr hS2) ?_;clear hK K;(try simp only[Act.put,s3]);refine aR 8 23 (.tuple #[.int .i64 lo,.int .i64 hi,.bool is,.int .i64 I2]) hS2 ?_;(try simp only[s3]);refine aR 9 32 (.int .i64 lo) hS2 ?_;(try simp only[s3]);refine aR 10 33 (.int .i64 hi) hS2 ?_;(try simp only[s3]);refine aR 11 34 (.bool is) hS2 ?_;(try simp only[s3]);refine aR 12 35 (.int .i64 I2) hS2 ?_;(try simp only[s3]);refine aR 13 6 (.int .i64 lo) hS2 ?_;(try simp only[s3]);refine aR 14 7 (.int .i64 hi) hS2 ?_;(try simp only[s3]);refine aR 15 8 (.bool is) hS2 ?_;(try simp only[s3]);refine aR 16 9 (.int .i64 I2) hS2 ?_;(try simp only[s3]);refine aw (by kernel_rfl) ?_ _;go_wp2_with fail;go_meet;exact⟨rfl,rfl,aa hS2⟩
 case rest =>
 obtain⟨rfl,rfl,HB⟩:=hcut;obtain⟨w3,rfl⟩:∃z:World,z=wc:=⟨wc,rfl⟩;have B3:=bU B2 HB.out;clear HB B2 X2;have hZ:=HZ.out;clear HZ
 by_cases hz:I2=0
 rotate_left
 ·have hzb:(I2 != 0)=true:=by simpa using hz
  rw[if_pos hz] at hZ;subst hZ;clear hz;go_wp2_with fail;go_ret;exact⟨rfl,B3.out⟩
 subst hz;rw[if_neg (by simp)] at hZ
 cases I1 with
 | none =>
   obtain rfl:false=is:=HIS.out;rw[if_pos rfl] at hZ;subst hZ;go_wp2_with fail;go_ret;exact⟨rfl,B3.out⟩
 | some p =>
   obtain rfl:true=is:=HIS.out;rw[if_neg (by simp)] at hZ;subst hZ;go_wp2_with fail;go_ret;exact⟨rfl,B3.out⟩
theorem rCheckCall_any (w:World) (x:FV) (F:Fld) (c:Cll) (h:FldAt w x F) (hk:0≤c.kind∧c.kind≤255) :
 Calls prog 170 #[x.val F,c.val] w fun e w'=>e=.returned (.int .i64 (dp F c))∧Below w.heap.size w w':=by
 obtain⟨w0,hw0⟩:∃W,W=(w.alloc (.cells (x.arr F) 27)).alloc (.cells c.vals 48):=⟨_,rfl⟩;have B0:=aa (hw0▸(two_boxes w x F c).1);have X0:=aa (hw0▸(two_boxes w x F c).2);have HC:=aa (fun W (hb:Below w.heap.size w W)=>refCheckField_any W x F (h.below hb));have HK:=aa (fun(hF:F.check=0) W (hb:Below w.heap.size w W)=>rcheckCall_any W x F c hF (h.below hb) hk);unfold dp;obtain⟨z,hz⟩:=ag F.check;obtain⟨v,hv⟩:=ag (dP F c);rw[hz] at HC HK ⊢;rw[hv] at HK ⊢;obtain⟨Z,hZ⟩:∃r:Int,(if z≠0 then z else v)=r:=⟨_,rfl⟩;rw[hZ];clear hz hv h hk;go_enter func170,ntmps170;go_upto_region 1 with fail
 unfold FV.val Cll.val at *
 rw[←hw0];clear hw0;refine wp_region_list ?_;refine ah rfl 27 _ rfl _ rfl w.heap.size rfl 27 _ (0,0) _ X0.out.2.1 underlying27 rfl (by kernel_rfl) ?_;simp only[Act.put,sA,sB,sC];go_wp2_with fail;refine(HC.out _ B0.out).mono ?_;rintro e w1 ⟨rfl,hb1⟩;have X1:=aa (X0.out.next hb1);have B1:=bU B0 hb1;clear hb1 X0 B0 HC
 by_cases h0:z=0
 rotate_left
 ·rw[if_pos h0] at hZ
  subst hZ
  have hzb:(z==0)=false:=by simpa using h0
  clear h0;go_wp2_with fail;go_ret;exact⟨rfl,B1.out⟩
 subst h0;rw[if_neg (by simp)] at hZ;subst hZ;go_upto_region 3 with fail;refine wp_region_list ?_;refine ah rfl 27 _ rfl _ rfl w.heap.size rfl 27 _ (0,0) _ X1.out.2.1 underlying27 rfl (by kernel_rfl) ?_;refine ah rfl 48 _ rfl _ rfl (w.heap.size+1) rfl 48 _ (0,0) _ X1.out.1 underlying48 rfl (by kernel_rfl) ?_;simp only[Act.put,sA,sB,sC];go_wp2_with fail;refine(HK.out trivial _ B1.out).mono ?_;rintro e w2 ⟨rfl,hb2⟩;have B2:=bU B1 hb2;clear hb2;go_wp2_with fail;go_ret;exact⟨rfl,B2.out⟩
theorem alongG_snoc (F:Fld) (c:Cll) (r:Int) (k:Nat):li F c r k++eG (eE F c.limit (c.fr+(k:Int))) (eE F c.other (c.fr+(k:Int))) 0 0 r=li F c r (k+1):=by
 unfold li;rw[List.range_succ,List.flatMap_append];simp
theorem alongG_len (F:Fld) (c:Cll) (r:Int) (k:Nat):(li F c r k).length=2*k:=by
 induction k with
 | zero=>rfl
 | succ k ih=>rw[←alongG_snoc,List.length_append,ih];simp[eG];omega
theorem pair_owns {w:World} {B:Nat} (hB:B≤w.heap.size) (p q lo hi r:Int):(w.alloc (.cells (bh (eG p q lo hi r)).toArray 65)).ownsRow B 65 4 (.slice (some ⟨w.heap.size,0,none⟩) 2 2) (eG p q lo hi r).length (bh (eG p q lo hi r)) :=
 ⟨by simp[eG,bh,Bd.cells],.inr ⟨w.heap.size,2,(bh (eG p q lo hi r)).toArray,rfl,hB,heap_alloc_new _ _,Nat.le_refl _,by unfold maxLen;omega,rfl,rfl⟩⟩
structure QJ (w:World) (x:FV) (F:Fld) (c:Cll) (v:Value) (bs:List Bd) (W:World):Prop where
 own:W.ownsRow w.heap.size 65 4 v bs.length (bh bs)
 b:Below w.heap.size w W
 k:Kb [(w.heap.size+1,.cells c.vals 48),(w.heap.size,.cells (x.arr F) 27)] W
theorem QJ.next {w:World} {x:FV} {F:Fld} {c:Cll} {v:Value} {bs:List Bd} {W W':World} (h:QJ w x F c v bs W) (hb:Below W.heap.size W W'):QJ w x F c v bs W' :=
 ⟨av h.own (fun g hg=>hb.block g (jh h.own hg).1),bB h.b hb,h.k.next hb⟩
theorem QJ.more {w:World} {x:FV} {F:Fld} {c:Cll} {v v':Value} {bs news:List Bd} {W W':World} (h:QJ w x F c v bs W) (h1:W'.ownsRow w.heap.size 65 4 v' (bs++news).length (bh (bs++news))) (h2:Below w.heap.size W W')
 (h3:∀(k:Nat) (cs:Array Value) (t:TypeId) (f:Nat×Nat),W.heap[k]?=some (.cells cs t f)→t≠65→W'.heap[k]?=some (.cells cs t f)):QJ w x F c v' (bs++news) W' :=
 ⟨h1,h.b.trans h2,h3 _ _ _ _ h.k.1 (by decide),h3 _ _ _ _ h.k.2.1 (by decide),trivial⟩
theorem rbounds1_any (w:World) (x:FV) (F:Fld) (c:Cll) (r:Int) (hk:c.kind=1) (hF:F.check=0) (hc:dP F c=0) (_h:FldAt w x F) :
 Calls prog 171 #[x.val F,c.val,.int .i64 r] w fun e w'=>(∃v,e=.returned v∧w'.ownsRow w.heap.size 65 4 v (eo F c r).length (bh (eo F c r)))∧Below w.heap.size w w':=by
 have ff:=bb hF;have cn9Q:=gZ hF hc;obtain⟨w0,hw0⟩:∃W,W=(w.alloc (.cells (x.arr F) 27)).alloc (.cells c.vals 48):=⟨_,rfl⟩;have B0:=aa (hw0▸(two_boxes w x F c).1);have X0:=aa (hw0▸(two_boxes w x F c).2);have kn9Q:=cn9Q.2.2.1 (by omega);have HPT:=aa (fun W=>rpoint_any W x F c.limit c.fr (by omega) cn9Q.1.1 cn9Q.1.2 cn9Q.2.1.1 cn9Q.2.1.2);obtain⟨P1,hP1⟩:=ag (eE F c.limit c.fr);have HPR:=aa (fun W=>rpair_any W 0 P1 (c.sz-c.er) (c.sz+c.er) r (by omega));rw[hP1] at HPT;have HCM:=aa (fun(V:World) (hV:V.heap[w.heap.size+1]?=some (.cells c.vals 48 (0,0)))=>crs_mid hV);obtain⟨kind,limit,other,fr,tt,sz,er,c1,c2,c3,c4,c5,c6⟩:=c
 dsimp only at *
 subst hk
 have hbs:∀a,eE F limit fr=a→eo F ⟨1,limit,other,fr,tt,sz,er,⟨c1,c2,c3,c4,c5,c6⟩⟩ r=eG 0 a (sz-er) (sz+er) r:=fun a e=>by unfold eo;rw[if_pos rfl,e]
 rw[hbs _ hP1];have kc:=ak X0.out.1;unfold Cll.vals at kc
 unfold FV.val Cll.val at *
 dsimp only at *
 clear _h hF hc ff hP1 cn9Q hbs;go_enter func171,ntmps171;go_upto_region 1 with fail;rw[←hw0];clear hw0;go_wp2_with (refine ah rfl 27 _ rfl _ rfl w.heap.size rfl 27 _ (0,0) _ X0.out.2.1 underlying27 rfl (by kernel_rfl) ?_);refine(HPT.out _).mono ?_;rintro e w1 ⟨rfl,hb1⟩;have X1:=aa (X0.out.next hb1);have B1:=bU B0 hb1;clear hb1 X0 B0 HPT kc;have kc:=ak X1.out.1;unfold Cll.vals at kc;dsimp only at kc;go_wp2_with fail;refine(HPR.out _).mono ?_;rintro e w3 ⟨rfl,rfl⟩;go_wp2_with fail;go_ret;exact⟨⟨_,rfl,pair_owns B1.out.size _ _ _ _ _⟩,B1.out.alloc B1.out.size _⟩
theorem rbounds2_any (w:World) (x:FV) (F:Fld) (c:Cll) (r:Int) (hk:c.kind=2) (hF:F.check=0) (hc:dP F c=0) (_h:FldAt w x F) :
 Calls prog 171 #[x.val F,c.val,.int .i64 r] w fun e w'=>(∃v,e=.returned v∧w'.ownsRow w.heap.size 65 4 v (eo F c r).length (bh (eo F c r)))∧Below w.heap.size w w':=by
 have ff:=bb hF;have cn9Q:=gZ hF hc;obtain⟨w0,hw0⟩:∃W,W=(w.alloc (.cells (x.arr F) 27)).alloc (.cells c.vals 48):=⟨_,rfl⟩;have B0:=aa (hw0▸(two_boxes w x F c).1);have X0:=aa (hw0▸(two_boxes w x F c).2);have kn9Q:=cn9Q.2.2.1 (by omega);have ko9Q:=cn9Q.2.2.2.1 (by omega);have HP2:=aa (fun W=>rpoint_any W x F c.other c.fr (by omega) ko9Q.1 ko9Q.2 cn9Q.2.1.1 cn9Q.2.1.2);obtain⟨P2,hP2⟩:=ag (eE F c.other c.fr);have HPT:=aa (fun W=>rpoint_any W x F c.limit c.fr (by omega) cn9Q.1.1 cn9Q.1.2 cn9Q.2.1.1 cn9Q.2.1.2);obtain⟨P1,hP1⟩:=ag (eE F c.limit c.fr);have HPR:=aa (fun W=>rpair_any W P1 P2 (c.sz-c.er) (c.sz+c.er) r (by omega));rw[hP1] at HPT;rw[hP2] at HP2;have HCM:=aa (fun(V:World) (hV:V.heap[w.heap.size+1]?=some (.cells c.vals 48 (0,0)))=>crs_mid hV);obtain⟨kind,limit,other,fr,tt,sz,er,c1,c2,c3,c4,c5,c6⟩:=c
 dsimp only at *
 subst hk
 have hbs:∀a b,eE F limit fr=a→eE F other fr=b→eo F ⟨2,limit,other,fr,tt,sz,er,⟨c1,c2,c3,c4,c5,c6⟩⟩ r=eG a b (sz-er) (sz+er) r:=fun a b e f=>by unfold eo;rw[if_neg (by simp),if_pos rfl,e,f]
 rw[hbs _ _ hP1 hP2];have kc:=ak X0.out.1;unfold Cll.vals at kc
 unfold FV.val Cll.val at *
 dsimp only at *
 clear _h hF hc ff hP1 cn9Q hbs hP2 ko9Q;go_enter func171,ntmps171;go_upto_region 1 with fail;rw[←hw0];clear hw0;go_wp2_with (refine ah rfl 27 _ rfl _ rfl w.heap.size rfl 27 _ (0,0) _ X0.out.2.1 underlying27 rfl (by kernel_rfl) ?_);refine(HPT.out _).mono ?_;rintro e w1 ⟨rfl,hb1⟩;have X1:=aa (X0.out.next hb1);have B1:=bU B0 hb1;clear hb1 X0 B0 HPT kc;have kc:=ak X1.out.1;unfold Cll.vals at kc;dsimp only at kc;go_wp2_with (refine ah rfl 27 _ rfl _ rfl w.heap.size rfl 27 _ (0,0) _ X1.out.2.1 underlying27 rfl (by kernel_rfl) ?_);refine(HP2.out _).mono ?_;rintro e w2 ⟨rfl,hb2⟩;have B2:=bU B1 hb2;clear hb2 X1 B1 HP2 kc;go_wp2_with fail;refine(HPR.out _).mono ?_;rintro e w3 ⟨rfl,rfl⟩;go_wp2_with fail;go_ret;exact⟨⟨_,rfl,pair_owns B2.out.size _ _ _ _ _⟩,B2.out.alloc B2.out.size _⟩
theorem rbounds5_any (w:World) (x:FV) (F:Fld) (c:Cll) (r:Int) (hk:c.kind=5) (hF:F.check=0) (hc:dP F c=0) (_h:FldAt w x F) :
 Calls prog 171 #[x.val F,c.val,.int .i64 r] w fun e w'=>(∃v,e=.returned v∧w'.ownsRow w.heap.size 65 4 v (eo F c r).length (bh (eo F c r)))∧Below w.heap.size w w':=by
 have ff:=bb hF;have cn9Q:=gZ hF hc;obtain⟨w0,hw0⟩:∃W,W=(w.alloc (.cells (x.arr F) 27)).alloc (.cells c.vals 48):=⟨_,rfl⟩;have B0:=aa (hw0▸(two_boxes w x F c).1);have X0:=aa (hw0▸(two_boxes w x F c).2);have kn9Q:=cn9Q.2.2.1 (by omega);have ko9Q:=cn9Q.2.2.2.2.1 (by omega);have HP2:=aa (fun W=>rpoint_any W x F c.limit c.tt (by omega) cn9Q.1.1 cn9Q.1.2 ko9Q.1 ko9Q.2);obtain⟨P2,hP2⟩:=ag (eE F c.limit c.tt);have HPT:=aa (fun W=>rpoint_any W x F c.limit c.fr (by omega) cn9Q.1.1 cn9Q.1.2 cn9Q.2.1.1 cn9Q.2.1.2);obtain⟨P1,hP1⟩:=ag (eE F c.limit c.fr);have HPR:=aa (fun W=>rpair_any W P1 P2 (c.sz-c.er) (c.sz+c.er) r (by omega));rw[hP1] at HPT;rw[hP2] at HP2;have HCM:=aa (fun(V:World) (hV:V.heap[w.heap.size+1]?=some (.cells c.vals 48 (0,0)))=>crs_mid hV);obtain⟨kind,limit,other,fr,tt,sz,er,c1,c2,c3,c4,c5,c6⟩:=c
 dsimp only at *
 subst hk
 have hbs:∀a b,eE F limit fr=a→eE F limit tt=b→eo F ⟨5,limit,other,fr,tt,sz,er,⟨c1,c2,c3,c4,c5,c6⟩⟩ r=eG a b (sz-er) (sz+er) r:=fun a b e f=>by unfold eo;rw[if_neg (by simp),if_neg (by simp),if_neg (by simp),if_neg (by simp),if_pos rfl,e,f]
 rw[hbs _ _ hP1 hP2];have kc:=ak X0.out.1;unfold Cll.vals at kc
 unfold FV.val Cll.val at *
 dsimp only at *
 clear _h hF hc ff hP1 cn9Q hbs hP2 ko9Q;go_enter func171,ntmps171;go_upto_region 1 with fail;rw[←hw0];clear hw0;go_wp2_with (refine ah rfl 27 _ rfl _ rfl w.heap.size rfl 27 _ (0,0) _ X0.out.2.1 underlying27 rfl (by kernel_rfl) ?_);refine(HPT.out _).mono ?_;rintro e w1 ⟨rfl,hb1⟩;have X1:=aa (X0.out.next hb1);have B1:=bU B0 hb1;clear hb1 X0 B0 HPT kc;have kc:=ak X1.out.1;unfold Cll.vals at kc;dsimp only at kc;go_wp2_with (refine ah rfl 27 _ rfl _ rfl w.heap.size rfl 27 _ (0,0) _ X1.out.2.1 underlying27 rfl (by kernel_rfl) ?_);refine(HP2.out _).mono ?_;rintro e w2 ⟨rfl,hb2⟩;have B2:=bU B1 hb2;clear hb2 X1 B1 HP2 kc;go_wp2_with fail;refine(HPR.out _).mono ?_;rintro e w3 ⟨rfl,rfl⟩;go_wp2_with fail;go_ret;exact⟨⟨_,rfl,pair_owns B2.out.size _ _ _ _ _⟩,B2.out.alloc B2.out.size _⟩
theorem rbounds3_any (w:World) (x:FV) (F:Fld) (c:Cll) (r:Int) (hk:c.kind=3) (hF:F.check=0) (hc:dP F c=0) (h:FldAt w x F) :
 Calls prog 171 #[x.val F,c.val,.int .i64 r] w fun e w'=>(∃v,e=.returned v∧w'.ownsRow w.heap.size 65 4 v (eo F c r).length (bh (eo F c r)))∧Below w.heap.size w w':=by
 have ff:=bb hF;have cn9Q:=gZ hF hc;obtain⟨w0,hw0⟩:∃W,W=(w.alloc (.cells (x.arr F) 27)).alloc (.cells c.vals 48):=⟨_,rfl⟩;have B0:=aa (hw0▸(two_boxes w x F c).1);have X0:=aa (hw0▸(two_boxes w x F c).2);have ko9Q:=cn9Q.2.2.2.2.1 (by omega);obtain⟨s1,s2,lo,hi,hit⟩:=cn9Q.2.2.2.2.2.2.1 hk;have HP2:=aa (fun W=>rpoint_any W x F c.limit c.tt (by omega) cn9Q.1.1 cn9Q.1.2 ko9Q.1 ko9Q.2);obtain⟨P2,hP2⟩:=ag (eE F c.limit c.tt)
 have hbd:-100000≤lo∧lo≤100000:=by
  unfold gV lD at hit
  have hfb:∃e,gD c.crs e (oX F c)=some (lo,hi):=by
   split at hit
   ·cases hit
   ·split at hit
    ·cases hit
    ·split at hit
     ·cases hit
     ·split at hit
      ·cases hit
      ·exact⟨_,(Prod.mk.inj hit).1⟩
  obtain⟨e,hfb⟩:=hfb;have:=nW hfb;omega
 have HRN:=aa (fun W (hb:Below w.heap.size w W)=>rrun_any W x F c hF (h.below hb) s1 s2);have HI:=aa (fun W (hb:Below w.heap.size w W)=>(itvV_eq (lD F.vrs c.crs (oX F c)))▸ritv_any W x.aV x.cV F.vrs c.crs (oX F c) (by have:=h.lv;omega) (h.below hb).vr);unfold gV at hit
 have hgd:((gV F c).1.getD (0,0))=(lo,hi):=by unfold gV;rw[hit];rfl
 rw[hit] at HI;dsimp only[Option.getD_some,Option.isSome_some] at HI;obtain⟨R,hR⟩:=ag (oX F c);rw[hR] at HI HRN;have HPT:=aa (fun W=>rpoint_any W x F c.limit c.fr (by omega) cn9Q.1.1 cn9Q.1.2 cn9Q.2.1.1 cn9Q.2.1.2);obtain⟨P1,hP1⟩:=ag (eE F c.limit c.fr);have HPR:=aa (fun W=>rpair_any W P1 P2 lo hi r (by omega));rw[hP1] at HPT;rw[hP2] at HP2;have HCM:=aa (fun(V:World) (hV:V.heap[w.heap.size+1]?=some (.cells c.vals 48 (0,0)))=>crs_mid hV);obtain⟨kind,limit,other,fr,tt,sz,er,c1,c2,c3,c4,c5,c6⟩:=c
 dsimp only at *
 subst hk
 have hbs:∀a b,eE F limit fr=a→eE F limit tt=b→eo F ⟨3,limit,other,fr,tt,sz,er,⟨c1,c2,c3,c4,c5,c6⟩⟩ r=eG a b lo hi r:=fun a b e f=>by unfold eo;rw[if_neg (by simp),if_neg (by simp),if_pos rfl,e,f,hgd]
 rw[hbs _ _ hP1 hP2];unfold Crs.val Crs.vals at HI;have kc:=ak X0.out.1;unfold Cll.vals at kc
 unfold FV.val Cll.val at *
 dsimp only at *
 clear h hF hc ff hP1 cn9Q hbs hP2 ko9Q hit hgd hR s1 s2 hbd;go_enter func171,ntmps171;go_upto_region 1 with fail;rw[←hw0];clear hw0;go_wp2_with (refine ah rfl 27 _ rfl _ rfl w.heap.size rfl 27 _ (0,0) _ X0.out.2.1 underlying27 rfl (by kernel_rfl) ?_);refine(HPT.out _).mono ?_;rintro e w1 ⟨rfl,hb1⟩;have X1:=aa (X0.out.next hb1);have B1:=bU B0 hb1;clear hb1 X0 B0 HPT kc;have kc:=ak X1.out.1;unfold Cll.vals at kc;dsimp only at kc;unfold Crs.vals at HCM;dsimp only at HCM HI;go_upto_region 12 with fail
 go_cut [10,11] (fun t u wx=>t=.int .i64 lo∧u=.int .i64 hi∧Hid (Below w1.heap.size w1 wx))
 case first =>
  refine aJ (S:=Below w1.heap.size w1) (last:=100) (by kernel_rfl) ?_;obtain⟨W0,hW0⟩:∃W,W=w1.drew:=⟨_,rfl⟩
  have hS0:Below w1.heap.size w1 W0:=by rw[hW0];exact(Below.refl _ _).drew
  rw[←hW0];clear hW0;refine aR 0 70 (.pointer (some ⟨w.heap.size,3,none⟩)) hS0 ?_;(try simp only[s3]);refine tf 1 71 (.slice x.aV F.vrs.length x.cV) hS0 (fun V hV=>?_) ?_
  ·(have z:=ak (X1.out.next hV).2.1 3;unfold FV.arr at z;simp[go_sem,execOp,z])
  (try simp only[s3]);refine aR 2 72 (.pointer (some ⟨(w.heap.size+1),7,none⟩)) hS0 ?_;(try simp only[s3]);refine tf 3 73 (.agg #[.int .i64 c1,.int .i64 c2,.int .i64 c3,.int .i64 c4,.int .i64 c5,.int .i64 c6]) hS0 (fun V hV=>?_) ?_
  ·exact ymid rfl rfl (HCM.out V (X1.out.next hV).1) underlying46 rfl (by kernel_rfl)
  (try simp only[s3]);refine tf 4 74 (.agg (x.arr F)) hS0 (fun V hV=>?_) ?_
  ·exact gp rfl rfl (X1.out.next hV).2.1 underlying27 rfl (by kernel_rfl)
  (try simp only[s3]);refine tf 5 75 (.agg (Cll.mk 3 limit other fr tt sz er ⟨c1,c2,c3,c4,c5,c6⟩).vals) hS0 (fun V hV=>?_) ?_
  ·exact gp rfl rfl (X1.out.next hV).1 underlying48 rfl (by kernel_rfl)
  (try simp only[s3]);refine ae 6 rfl (by kernel_rfl) (fun K hK=>?_);go_simp;go_at_call 239;refine(HRN.out _ (bB B1.out hS0)).mono ?_;rintro e wq1 ⟨rfl,hq1⟩;have hS1:Below w1.heap.size w1 wq1:=bB hS0 hq1;clear hq1;go_wp2_with fail;refine hK.out _ _ (.inr hS1) ?_;clear hK K;(try simp only[Act.put,s3]);refine ae 7 rfl (by kernel_rfl) (fun K hK=>?_);go_simp;go_at_call 238;refine(HI.out _ (bB B1.out hS1)).mono ?_;rintro e wq2 ⟨rfl,hq2⟩;have hS2:Below w1.heap.size w1 wq2:=bB hS1 hq2;clear hq2;go_wp2_with fail;refine hK.out _ _ (.inr hS2) ?_;clear hK K;(try simp only[Act.put,s3]);refine aR 8 69 (.tuple #[.int .i64 lo,.int .i64 hi,.bool true,.int .i64 0]) hS2 ?_;(try simp only[s3]);refine aR 9 78 (.int .i64 lo) hS2 ?_;(try simp only[s3]);refine aR 10 79 (.int .i64 hi) hS2 ?_;(try simp only[s3]);refine aR 11 80 (.bool true) hS2 ?_;(try simp only[s3]);refine aR 12 81 (.int .i64 0) hS2 ?_;(try simp only[s3]);refine aR 13 10 (.int .i64 lo) hS2 ?_;(try simp only[s3]);refine aR 14 11 (.int .i64 hi) hS2 ?_;(try simp only[s3]);refine aR 15 12 (.bool true) hS2 ?_;(try simp only[s3]);refine aR 16 13 (.int .i64 0) hS2 ?_;(try simp only[s3]);refine aw (by kernel_rfl) ?_ _;go_wp2_with fail;go_meet;exact⟨rfl,rfl,aa hS2⟩
 case rest =>
 obtain⟨rfl,rfl,HB⟩:=hcut;obtain⟨wz9Q,rfl⟩:∃z:World,z=wc:=⟨wc,rfl⟩;have XZ:=aa (X1.out.next HB.out);have BZ9Q:=bU B1 HB.out;clear HB X1 B1 kc HRN HI;have kc:=ak XZ.out.1;unfold Cll.vals at kc;dsimp only at kc;go_wp2_with (refine ah rfl 27 _ rfl _ rfl w.heap.size rfl 27 _ (0,0) _ XZ.out.2.1 underlying27 rfl (by kernel_rfl) ?_);refine(HP2.out _).mono ?_;rintro e w2 ⟨rfl,hb2⟩;have B2:=bU BZ9Q hb2;clear hb2 XZ BZ9Q HP2 kc;go_wp2_with fail;refine(HPR.out _).mono ?_;rintro e w3 ⟨rfl,rfl⟩;go_wp2_with fail;go_ret;exact⟨⟨_,rfl,pair_owns B2.out.size _ _ _ _ _⟩,B2.out.alloc B2.out.size _⟩
theorem rbounds4_any (w:World) (x:FV) (F:Fld) (c:Cll) (r:Int) (hk:c.kind=4) (hF:F.check=0) (hc:dP F c=0) (_h:FldAt w x F) :
 Calls prog 171 #[x.val F,c.val,.int .i64 r] w fun e w'=>(∃v,e=.returned v∧w'.ownsRow w.heap.size 65 4 v (eo F c r).length (bh (eo F c r)))∧Below w.heap.size w w':=by
 have ff:=bb hF;have cn9Q:=gZ hF hc;obtain⟨w0,hw0⟩:∃W,W=(w.alloc (.cells (x.arr F) 27)).alloc (.cells c.vals 48):=⟨_,rfl⟩;have B0:=aa (hw0▸(two_boxes w x F c).1);have X0:=aa (hw0▸(two_boxes w x F c).2);have ko9Q:=cn9Q.2.2.2.1 (by omega);have kt:=cn9Q.2.2.2.2.2.1 hk;have HPX:=aa (fun W s (h0:0≤s) (h1:s≤1000)=>rpoint_any W x F c.limit s (by omega) cn9Q.1.1 cn9Q.1.2 h0 h1);have HPY:=aa (fun W s (h0:0≤s) (h1:s≤1000)=>rpoint_any W x F c.other s (by omega) ko9Q.1 ko9Q.2 h0 h1);have HPT:=aa (fun W=>rpoint_any W x F c.limit c.fr (by omega) cn9Q.1.1 cn9Q.1.2 cn9Q.2.1.1 cn9Q.2.1.2);obtain⟨P1,hP1⟩:=ag (eE F c.limit c.fr);rw[hP1] at HPT;have HCM:=aa (fun(V:World) (hV:V.heap[w.heap.size+1]?=some (.cells c.vals 48 (0,0)))=>crs_mid hV);obtain⟨kind,limit,other,fr,tt,sz,er,c1,c2,c3,c4,c5,c6⟩:=c
 dsimp only at *
 subst hk;have cf0:=cn9Q.2.1;obtain⟨n,hn⟩:∃n:Nat,(tt-fr+1).toNat=n:=⟨_,rfl⟩
 have hn2:fr+(n:Int)=tt+1:=by omega
 have hn3:n≤1001:=by omega
 have hbs:eo F ⟨4,limit,other,fr,tt,sz,er,⟨c1,c2,c3,c4,c5,c6⟩⟩ r=li F ⟨4,limit,other,fr,tt,sz,er,⟨c1,c2,c3,c4,c5,c6⟩⟩ r n:=by
  unfold eo;rw[if_neg (by simp),if_neg (by simp),if_neg (by simp),if_pos rfl,←hn]
 rw[hbs];have HSNO:=aa (fun k=>alongG_snoc F ⟨4,limit,other,fr,tt,sz,er,⟨c1,c2,c3,c4,c5,c6⟩⟩ r k);have HLE:=aa (fun k=>alongG_len F ⟨4,limit,other,fr,tt,sz,er,⟨c1,c2,c3,c4,c5,c6⟩⟩ r k);clear hn cn9Q;have kc:=ak X0.out.1;unfold Cll.vals at kc
 unfold FV.val Cll.val at *
 dsimp only at *
 clear _h hF hc ff hP1 hbs ko9Q HCM;go_enter func171,ntmps171;go_upto_region 1 with fail;rw[←hw0];clear hw0;go_wp2_with (refine ah rfl 27 _ rfl _ rfl w.heap.size rfl 27 _ (0,0) _ X0.out.2.1 underlying27 rfl (by kernel_rfl) ?_);refine(HPT.out _).mono ?_;rintro e w1 ⟨rfl,hb1⟩;have X1:=aa (X0.out.next hb1);have B1:=bU B0 hb1;clear hb1 X0 B0 HPT kc;have kc:=ak X1.out.1;unfold Cll.vals at kc;dsimp only at kc;go_upto_region 14 with fail;have J1:Hid (QJ w x F ⟨4,limit,other,fr,tt,sz,er,⟨c1,c2,c3,c4,c5,c6⟩⟩ (.slice none 0 0) (li F ⟨4,limit,other,fr,tt,sz,er,⟨c1,c2,c3,c4,c5,c6⟩⟩ r 0) w1):=aa ⟨World.ownsRow_nil _ _ _ _,B1.out,X1.out⟩;clear X1 B1;go_wp2_with fail
 go_loopw [14,15] (fun v s wr=>∃(k:Nat) (p:Int),k≤n∧s=.int .i64 p∧p=fr+(k:Int)∧Hid (QJ w x F ⟨4,limit,other,fr,tt,sz,er,⟨c1,c2,c3,c4,c5,c6⟩⟩ v (li F ⟨4,limit,other,fr,tt,sz,er,⟨c1,c2,c3,c4,c5,c6⟩⟩ r k) wr)) (fun _ s _=>(tt+1-intOf s).toNat)
 case atStart=>exact⟨0,fr,Nat.zero_le _,rfl,by omega,J1⟩
 case round =>
  obtain⟨k,p,hk,rfl,hp,J⟩:=hrel;obtain⟨w2,rfl⟩:∃z:World,z=wr:=⟨wr,rfl⟩;obtain⟨v,rfl⟩:∃z:Value,z=u14:=⟨u14,rfl⟩;clear kc J1;have kc:=ak J.out.k.1;unfold Cll.vals at kc;dsimp only at kc
  by_cases hlt:k<n
  ·have hpb:0≤p∧p≤1000∧p≤tt:=by omega
   have HPA:=aa (fun W=>HPX.out W p hpb.1 hpb.2.1);have HPB:=aa (fun W=>HPY.out W p hpb.1 hpb.2.1);have HSN:=aa (HSNO.out k);rw[←hp] at HSN;obtain⟨P1,hP1⟩:=ag (eE F limit p);obtain⟨P2,hP2⟩:=ag (eE F other p);rw[hP1] at HPA HSN;rw[hP2] at HPB HSN;have HPQ:=aa (fun W=>rpair_any W P1 P2 0 0 r (by omega));have HP9:=aa hp;have HK9:=aa hlt;clear hP1 hP2 hp;go_upto_region 18 with fail;refine aJ (S:=Kb [(w.heap.size+1,.cells (Cll.mk 4 limit other fr tt sz er ⟨c1,c2,c3,c4,c5,c6⟩).vals 48),(w.heap.size,.cells (x.arr F) 27)]) (last:=100) (by kernel_rfl) ?_;obtain⟨W0,hW0⟩:∃W,W=w2.drew:=⟨_,rfl⟩;have J0:=aa (J.out.next (show Below w2.heap.size w2 W0 by rw[hW0];exact(Below.refl _ _).drew));have hS0:=J0.out.k;rw[←hW0];clear hW0;refine aR 0 101 (v) hS0 ?_;(try simp only[s3]);refine tf 1 102 (.agg (x.arr F)) hS0 (fun V hV=>?_) ?_
   ·exact gp rfl rfl hV.2.1 underlying27 rfl (by kernel_rfl)
   (try simp only[s3]);refine aR 2 103 (.pointer (some ⟨(w.heap.size+1),1,none⟩)) hS0 ?_;(try simp only[s3]);refine tf 3 104 (.int .i64 limit) hS0 (fun V hV=>?_) ?_
   ·(have z:=ak hV.1 1;unfold Cll.vals at z;simp[go_sem,execOp,z])
   (try simp only[s3]);refine aR 4 105 (.int .i64 p) hS0 ?_;(try simp only[s3]);refine tf 6 107 (.agg (x.arr F)) hS0 (fun V hV=>?_) ?_
   ·exact gp rfl rfl hV.2.1 underlying27 rfl (by kernel_rfl)
   (try simp only[s3]);refine aR 7 108 (.pointer (some ⟨(w.heap.size+1),2,none⟩)) hS0 ?_;(try simp only[s3]);refine tf 8 109 (.int .i64 other) hS0 (fun V hV=>?_) ?_
   ·(have z:=ak hV.1 2;unfold Cll.vals at z;simp[go_sem,execOp,z])
   (try simp only[s3]);refine aR 9 110 (.int .i64 p) hS0 ?_;(try simp only[s3]);refine aR 11 112 (.int .i64 r) hS0 ?_;(try simp only[s3]);refine ae 5 rfl (by kernel_rfl) (fun K hK=>?_);go_simp;go_at_call 168;refine(HPA.out _).mono ?_;rintro e wq1 ⟨rfl,hq1⟩;have J1:=aa (J0.out.next hq1);have hS1:=J1.out.k;clear hq1;go_wp2_with fail;refine hK.out _ _ (.inr hS1) ?_;clear hK K;(try simp only[Act.put,s3]);refine ae 10 rfl (by kernel_rfl) (fun K hK=>?_);go_simp;go_at_call 168;refine(HPB.out _).mono ?_;rintro e wq2 ⟨rfl,hq2⟩;have J2:=aa (J1.out.next hq2);have hS2:=J2.out.k;clear hq2;go_wp2_with fail;refine hK.out _ _ (.inr hS2) ?_;clear hK K;(try simp only[Act.put,s3]);refine ae 12 rfl (by kernel_rfl) (fun K hK=>?_);go_simp;go_at_call 237;refine(HPQ.out _).mono ?_;rintro e wq3 ⟨rfl,hq3⟩
   have hb3:Below wq2.heap.size wq2 wq3:=by rw[hq3];exact aD
   have own3:=(J2.out.next hb3).own;have hg3:=(show wq3.heap[wq2.heap.size]?=some (.cells (bh (eG P1 P2 0 0 r)).toArray 65 (0,0)) by rw[hq3];exact heap_alloc_new _ _);have J3:=aa (J2.out.next hb3);have hS3:=J3.out.k;obtain⟨v',w4,hrun,ho,hbl,hty⟩:=wy (news:=eG P1 P2 0 0 r) own3 hg3 (by rw[alongG_len];omega) (by show 2≤_;omega) J3.out.b.size 59;have J4:=aa (QJ.more J3.out ho hbl hty);rw[HSN.out] at J4;have hS4:=J4.out.k;have HRUN:=aa hrun;clear hrun ho hbl hty own3 hg3 hb3 hq3;go_wp2_with fail;refine hK.out _ _ (.inr hS3) ?_;clear hK K;(try simp only[Act.put,s3]);refine ae 13 rfl (by kernel_rfl) (fun K hK=>?_);refine oA rfl (s:=.tmp 101) (x:=.tmp 113) (t:=59) rfl rfl rfl HRUN.out ?_;refine hK.out _ _ (.inr hS4) ?_;clear hK K;(try simp only[Act.put,sA]);refine aR 14 14 (v') hS4 ?_;(try simp only[s3]);refine aw (by kernel_rfl) ?_ _;go_wp2_with fail;go_roundw
   case rel=>exact⟨k+1,p+1,HK9.out,rfl,by have:=HP9.out;omega,J4⟩
   case measure=>simp[intOf];omega
  ·obtain rfl:k=n:=by omega
   have hpt:tt<p:=by omega
   have JH:=J;clear J hp;go_wp2_with fail;go_ret;exact⟨⟨_,rfl,JH.out.own⟩,JH.out.b⟩
theorem rboundsC_any (w:World) (x:FV) (F:Fld) (c:Cll) (r:Int) (hF:F.check=0) (hc:dP F c=0) (h:FldAt w x F) :
 Calls prog 171 #[x.val F,c.val,.int .i64 r] w fun e w'=>(∃v,e=.returned v∧w'.ownsRow w.heap.size 65 4 v (eo F c r).length (bh (eo F c r)))∧Below w.heap.size w w':=by
 rcases(gZ hF hc).2.2.2.2.2.2.2 with k|k|k|k|k
 ·exact rbounds1_any w x F c r k hF hc h
 ·exact rbounds2_any w x F c r k hF hc h
 ·exact rbounds3_any w x F c r k hF hc h
 ·exact rbounds4_any w x F c r k hF hc h
 ·exact rbounds5_any w x F c r k hF hc h
theorem rBounds_any (w:World) (x:FV) (F:Fld) (c:Cll) (r:Int) (h:FldAt w x F) (hk:0≤c.kind∧c.kind≤255) :
 Calls prog 92 #[x.val F,c.val,.int .i64 r] w fun e w'=>(∃v,e=.returned (.tuple #[v,.int .i64 (ic F c r).2])∧w'.ownsRow w.heap.size 65 4 v (ic F c r).1.length (bh (ic F c r).1))∧Below w.heap.size w w':=by
 obtain⟨⟨RL,RE⟩,hR⟩:=ag (ic F c r);rw[hR];unfold ic at hR;obtain⟨w0,hw0⟩:∃W,W=(w.alloc (.cells (x.arr F) 27)).alloc (.cells c.vals 48):=⟨_,rfl⟩;have B0:=aa (show Below w.heap.size w w0 by rw[hw0];exact(aD).alloc (by simp) _)
 have X0:=aa (show Kb [(w.heap.size+1,.cells c.vals 48),(w.heap.size,.cells (x.arr F) 27)] w0 by
  rw[hw0];have:=Kb.alloc (o:=.cells c.vals 48) (Kb.alloc (W:=w) (o:=.cells (x.arr F) 27) (L:=[]) trivial)
  simpa using this)
 have HCF:=aa (rCheckCall_any w0 x F c (h.below B0.out) hk);have HB:=aa (fun(q:dp F c=0) W (hb:Below w.heap.size w W)=>rboundsC_any W x F c r (gC q).1 (gC q).2 (h.below hb));have HIN:=aa (fun W=>within3_any r 0 1000000 W);obtain⟨z,hz⟩:=ag (dp F c);rw[hz] at HCF hR HB;obtain⟨p,hp⟩:=ag (bm r 0 1000000);rw[hp] at hR HIN;clear hz hp h;go_enter func92,ntmps92;go_upto_region 1 with fail;unfold FV.val Cll.val;rw[←hw0];clear hw0;refine wp_region_list ?_;refine ah rfl 27 _ rfl _ rfl w.heap.size rfl 27 _ (0,0) _ X0.out.2.1 underlying27 rfl (by kernel_rfl) ?_;refine ah rfl 48 _ rfl _ rfl (w.heap.size+1) rfl 48 _ (0,0) _ X0.out.1 underlying48 rfl (by kernel_rfl) ?_;simp only[Act.put,sA,sB,sC];go_wp2_with fail;refine HCF.out.mono ?_;rintro e w1 ⟨rfl,hb1⟩;have X1:=aa (X0.out.next hb1);have B1:=bU B0 hb1;clear hb1 HCF X0
 by_cases h0:z=0
 rotate_left
 ·rw[if_pos h0] at hR
  have hzb:(z != 0)=true:=by simpa using h0
  cases hR;clear h0;go_wp2_with fail;go_ret2;exact⟨⟨_,rfl,fI _ _⟩,B1.out⟩
 subst h0;rw[if_neg (by omega)] at hR
 cases p with
 | false =>
   rw[if_pos rfl] at hR;cases hR;go_wp2_with fail;refine(HIN.out _).mono ?_;rintro e w2 ⟨rfl,rfl⟩;go_wp2_with fail;go_ret2;exact⟨⟨_,rfl,fI _ _⟩,B1.out⟩
 | true =>
   rw[if_neg (by simp)] at hR;cases hR;go_wp2_with fail;refine(HIN.out _).mono ?_;rintro e w2 ⟨rfl,rfl⟩;go_upto_region 6 with fail;refine wp_region_list ?_;refine ah rfl 27 _ rfl _ rfl w.heap.size rfl 27 _ (0,0) _ X1.out.2.1 underlying27 rfl (by kernel_rfl) ?_;refine ah rfl 48 _ rfl _ rfl (w.heap.size+1) rfl 48 _ (0,0) _ X1.out.1 underlying48 rfl (by kernel_rfl) ?_;simp only[Act.put,sA,sB,sC];go_wp2_with fail;refine(HB.out trivial _ B1.out).mono ?_;rintro e w3 ⟨⟨v,rfl,hv⟩,hb3⟩;have HV:=aa hv;have HB3:=aa hb3;clear hv hb3;go_wp2_with fail;go_ret2;refine⟨⟨_,rfl,?_⟩,bB B1.out HB3.out⟩;obtain⟨h1,h2|⟨g,cp,cur,e1,e2,e3⟩⟩:=HV.out
   ·exact⟨h1,.inl h2⟩
   ·exact⟨h1,.inr ⟨g,cp,cur,e1,Nat.le_trans B1.out.size e2,e3⟩⟩
theorem rPoints_any (w:World) (x:FV) (F:Fld) (h:FldAt w x F) :
 Calls prog 167 #[x.val F] w fun e w'=>e=.returned (.int .i64 (if F.check=0 then F.points else 0))∧Below w.heap.size w w':=by
 obtain⟨w0,hw0⟩:∃W,W=w.alloc (.cells (x.arr F) 27):=⟨_,rfl⟩;have B0:=aa (show Below w.heap.size w w0 by rw[hw0];exact aD);have X0:=aa (show Kb [(w.heap.size,.cells (x.arr F) 27)] w0 by rw[hw0];exact Kb.alloc trivial);have HCF:=aa (refCheckField_any w0 x F (h.below B0.out));have HBD:=aa (fun(q:F.check=0)=>xL (F:=F) (by have:=(bb q).2.1;omega) (by have:=(bb q).1;omega));unfold Fld.points;obtain⟨m,hm⟩:=ag ((F.lms.length:Int)*(F.sts.length:Int));rw[hm] at HBD ⊢;obtain⟨z,hz⟩:=ag F.check;rw[hz] at HCF HBD ⊢;have HM:=aa hm;obtain⟨Z,hZ⟩:∃r:Int,(if z=0 then 1+m else 0)=r:=⟨_,rfl⟩;rw[hZ];clear hz h hm;have kk:=ak X0.out.1
 unfold FV.val FV.arr at *
 go_enter func167,ntmps167;go_upto_region 1 with fail;rw[←hw0];clear hw0;go_wp2_with fail;refine HCF.out.mono ?_;rintro e w1 ⟨rfl,hb1⟩;have X1:=aa (X0.out.next hb1);have B1:=bU B0 hb1;clear hb1 HCF X0 kk
 by_cases h0:z=0
 rotate_left
 ·rw[if_neg h0] at hZ
  subst hZ
  have hzb:(z != 0)=true:=by simpa using h0
  clear h0;go_wp2_with fail;go_ret;exact⟨rfl,B1.out⟩
 subst h0;rw[if_pos rfl] at hZ;subst hZ;have hbd:=HBD.out (by trivial);have hm:=HM.out
 have wm:IntKind.i64.wrap ((F.lms.length:Int)*(F.sts.length:Int))=m:=by rw[hm];exact IntWalk.i64_in _ (by omega)
 have kk:=ak X1.out.1;clear hm HM HBD;go_wp2_with fail;go_ret;exact⟨rfl,B1.out⟩
theorem nat2_split (p:Nat):vt p=[(⟨0,(p:Int)+1,100000,0⟩:Bd)]++[⟨(p:Int)+1,0,0,0⟩]:=rfl
theorem rnature_ok (w:World) (x:FV) (F:Fld) (hF:F.check=0) (hf:FldAt w x F) :
 Calls prog 90 #[x.val F] w fun e w'=>(∃v,e=.returned (.tuple #[v,.int .i64 0])∧w'.ownsRow w.heap.size 65 4 v (fF F).length (bh (fF F)))∧Below w.heap.size w w':=by
 have hl:=(bb hF).2.1;have hs:=(bb hF).1;have hm:=kX hF;obtain⟨n,hn⟩:=ag (F.lms.length*F.sts.length)
 have hP:F.points=(n:Int)+1:=by unfold Fld.points;rw[←hn];push_cast;omega
 have HPT:=aa (fun W (hb:Below w.heap.size w W)=>rPoints_any W x F (hf.below hb));have HCF:=aa (fun W (hb:Below w.heap.size w W)=>refCheckField_any W x F (hf.below hb));rw[if_pos hF,hP] at HPT;rw[hF] at HCF;rw[Af];obtain⟨w0,hw0⟩:∃W,W=w.alloc (.cells (x.arr F) 27):=⟨_,rfl⟩;have J0:=aa (show NJ w x F (.slice none 0 0) [] w0 from⟨World.ownsRow_nil _ _ _ _,by rw[hw0];exact aD,by rw[hw0];exact heap_alloc_new _ _⟩);rw[hn] at hm;have HN:=aa hn;clear hn hP hf
 unfold FV.val FV.arr at *
 go_enter func90,ntmps90;go_upto_region 1 with fail;rw[←hw0];clear hw0;have kk:=ak J0.out.k;unfold FV.arr at kk;go_wp2_with fail;refine(HCF.out _ J0.out.b).mono ?_;rintro e w1 ⟨rfl,hb⟩;have J1:=aa (J0.out.next hb);clear hb kk J0 HCF;go_wp2_with fail
 go_loopw [5,6] (fun v p wr=>∃(k:Nat),k≤n∧p=.int .i64 ((k:Int)+1)∧Hid (NJ w x F v ((List.range k).flatMap vt) wr)) (fun _ p _=>n+1-(intOf p).toNat)
 case atStart=>exact⟨0,Nat.zero_le _,rfl,J1⟩
 case round =>
  obtain⟨k,hk,rfl,J⟩:=hrel;obtain⟨wA,rfl⟩:∃z:World,z=wr:=⟨wr,rfl⟩;have kk:=ak J.out.k;unfold FV.arr at kk
  by_cases hlt:k<n
  ·go_wp2_with fail
   refine(HPT.out _ J.out.b).mono ?_;rintro e wB ⟨rfl,hb⟩;have J2:=aa (J.out.next hb);clear hb kk;have own3:=J2.out.own.alloc (.cells #[.int .i64 0,.int .i64 ((k:Int)+1),.int .i64 100000,.int .i64 0] 65);obtain⟨v1,wC,hrun,ho,hbl,hty⟩:=wy (news:=[⟨0,(k:Int)+1,100000,0⟩]) own3 (b:=wB.heap.size) (heap_alloc_new _ _) (by rw[sy];omega) (by show 1≤_;omega) (by have:=J2.out.lt;simp;omega) 59;have J3:=aa (NJ.more (J2.out.next ((Below.refl _ _).alloc (Nat.le_refl _) (.cells #[.int .i64 0,.int .i64 ((k:Int)+1),.int .i64 100000,.int .i64 0] 65))) ho hbl hty);have HRUN:=aa hrun;clear hrun ho hbl hty own3 J J2;have own4:=J3.out.own.alloc (.cells #[.int .i64 ((k:Int)+1),.int .i64 0,.int .i64 0,.int .i64 0] 65);obtain⟨v',wD,hrun,ho,hbl,hty⟩:=wy (news:=[⟨(k:Int)+1,0,0,0⟩]) own4 (b:=wC.heap.size) (heap_alloc_new _ _) (by rw[List.length_append,sy];simp;omega) (by show 1≤_;omega) (by have:=J3.out.lt;simp;omega) 59;have J4:=aa (NJ.more (J3.out.next ((Below.refl _ _).alloc (Nat.le_refl _) (.cells #[.int .i64 ((k:Int)+1),.int .i64 0,.int .i64 0,.int .i64 0] 65))) ho hbl hty);rw[List.append_assoc,←nat2_split,←jP] at J4;have HRUN2:=aa hrun;clear hrun ho hbl hty own4 J3
   have hkw:IntKind.i64.wrap ((k:Int)+1+1)=((k+1:Nat):Int)+1:=by rw[IntWalk.i64_in _ (by omega)];push_cast;rfl
   go_wp2_with (at_builtin;first|(refine aN rfl (s:=.tmp 20) (x:=.tmp 23) (t:=59) rfl rfl rfl HRUN.out ?_)|(refine aN rfl (s:=.tmp 25) (x:=.tmp 28) (t:=59) rfl rfl rfl HRUN2.out ?_));go_roundw
   case rel=>exact⟨k+1,by omega,by go_num,J4⟩
   case measure=>simp[intOf];omega
  ·obtain rfl:k=n:=by omega
   go_wp2_with fail;refine(HPT.out _ J.out.b).mono ?_;rintro e wB ⟨rfl,hb⟩;have J2:=aa (J.out.next hb);clear hb kk J;have hJ2:Hid (NJ w x F u5 (iR F 0) wB):=aa (by have:=J2.out;unfold iR;rw[HN.out];simpa using this);clear J2;have kk:=ak hJ2.out.k;unfold FV.arr at kk;go_wp2_with fail
   go_loopw [5,7] (fun v i wr=>∃(k:Nat),k≤F.lms.length-1∧i=.int .i64 (k:Int)∧Hid (NJ w x F v (iR F k) wr)) (fun _ i _=>F.lms.length-1-(intOf i).toNat)
   case atStart=>exact⟨0,Nat.zero_le _,rfl,hJ2⟩
   case round =>
    obtain⟨k,hk2,rfl,J⟩:=hrel;obtain⟨wD,rfl⟩:∃z:World,z=wr:=⟨wr,rfl⟩;clear hJ2 kk;have kk:=ak J.out.k;unfold FV.arr at kk
    by_cases hlt2:k<F.lms.length-1
    ·have hkb:(k:Int)+1≤1000:=by omega
     have hlt3:(k:Int)<(F.lms.length:Int)-1:=by omega
     have hlt5:decide ((k:Int)+1<(F.lms.length:Int))=true:=by simp;omega
     go_wp2_with fail
     go_loopw [5,8] (fun v i wr=>∃(st:Nat),st≤F.sts.length∧i=.int .i64 (st:Int)∧Hid (NJ w x F v (jz F k st) wr)) (fun _ i _=>F.sts.length-(intOf i).toNat)
     case atStart=>exact⟨0,Nat.zero_le _,rfl,aa (by rw[ul];exact J.out)⟩
     case round =>
      obtain⟨st,hst,rfl,J5⟩:=hrel;obtain⟨wE,rfl⟩:∃z:World,z=wr:=⟨wr,rfl⟩;clear kk;have kk:=ak J5.out.k;unfold FV.arr at kk
      by_cases hlt4:st<F.sts.length
      ·have HPA:=aa (fun W=>rpoint_any W x F ((k:Int)+1) (st:Int) (by omega) (by omega) (by omega) (by omega) (by omega))
       have HPB:=aa (fun W=>rpoint_any W x F (k:Int) (st:Int) (by omega) (by omega) (by omega) (by omega) (by omega));have HNA:=aa (show Ba F k st=⟨eE F ((k:Int)+1) (st:Int),eE F (k:Int) (st:Int),0,0⟩ from rfl);unfold FV.val FV.arr at HPA HPB;obtain⟨p,hp⟩:=ag (eE F ((k:Int)+1) (st:Int));obtain⟨q,hq⟩:=ag (eE F (k:Int) (st:Int));rw[hp] at HPA HNA;rw[hq] at HPB HNA;have wk1:IntKind.i64.wrap ((k:Int)+1)=(k:Int)+1:=IntWalk.i64_in _ (by omega);have hklen:k*F.sts.length≤9*12:=Nat.mul_le_mul (by omega) (by omega);clear hp hq J;go_upto_region 16 with fail;have J0:=aa (J5.out.next (Below.refl _ wE).drew);have hS0:Kb [(w.heap.size,.cells #[.slice x.aS F.sts.length x.cS,.slice x.aL F.lms.length x.cL,.slice x.aP F.prs.length x.cP,.slice x.aV F.vrs.length x.cV] 27)] wE.drew:=⟨J0.out.k,trivial⟩;clear J5 kk;refine aJ (S:=Kb [(w.heap.size,.cells #[.slice x.aS F.sts.length x.cS,.slice x.aL F.lms.length x.cL,.slice x.aP F.prs.length x.cP,.slice x.aV F.vrs.length x.cV] 27)]) (last:=100) (by kernel_rfl) ?_;refine aR 0 45 (u5) hS0 ?_;(try simp only[s3]);refine tf 1 46 (.agg #[.slice x.aS F.sts.length x.cS,.slice x.aL F.lms.length x.cL,.slice x.aP F.prs.length x.cP,.slice x.aV F.vrs.length x.cV]) hS0 (fun V hV=>?_) ?_
       ·exact gp rfl rfl hV.1 underlying27 rfl (by kernel_rfl)
       (try simp only[s3]);refine aR 2 47 (.int .i64 ((k:Int))) hS0 ?_;(try simp only[s3]);refine tf 3 48 (.int .i64 ((k:Int)+1)) hS0 (fun V hV=>?_) ?_
       ·simp[go_sem,execOp,wk1]
       (try simp only[s3]);refine aR 4 49 (.int .i64 ((st:Int))) hS0 ?_;(try simp only[s3]);refine tf 6 51 (.agg #[.slice x.aS F.sts.length x.cS,.slice x.aL F.lms.length x.cL,.slice x.aP F.prs.length x.cP,.slice x.aV F.vrs.length x.cV]) hS0 (fun V hV=>?_) ?_
       ·exact gp rfl rfl hV.1 underlying27 rfl (by kernel_rfl)
       (try simp only[s3]);refine aR 7 52 (.int .i64 ((k:Int))) hS0 ?_;(try simp only[s3]);refine aR 8 53 (.int .i64 ((st:Int))) hS0 ?_;(try simp only[s3]);refine ae 5 rfl (by kernel_rfl) (fun K hK=>?_);go_simp;go_at_call 168;refine(HPA.out _).mono ?_;rintro e z1 ⟨rfl,hb1⟩;have hS1:=hS0.next hb1;have J1:=aa (J0.out.next hb1);clear hb1 J0;go_wp2_with fail;refine hK.out _ _ (.inr hS1) ?_;clear hK K;(try simp only[Act.put,s3]);refine ae 9 rfl (by kernel_rfl) (fun K hK=>?_);go_simp;go_at_call 168;refine(HPB.out _).mono ?_;rintro e z2 ⟨rfl,hb2⟩;have hS2:=hS1.next hb2;have J2:=aa (J1.out.next hb2);clear hb2 J1;go_wp2_with fail;refine hK.out _ _ (.inr hS2) ?_;clear hK K;(try simp only[Act.put,s3]);refine aR 10 55 (.agg #[.int .i64 p,.int .i64 q,.int .i64 0,.int .i64 0]) hS2 ?_;(try simp only[s3]);refine ae 11 rfl (by kernel_rfl) (fun K hK=>?_);refine Eq.mpr (if_pos (by kernel_rfl)) ?_;go_simp;have hS3:=hS2.next ((Below.refl _ z2).alloc (Nat.le_refl _) (.cells #[.int .i64 p,.int .i64 q,.int .i64 0,.int .i64 0] 65));obtain⟨v2,z4,hrun,ho,hbl,hty⟩:=wy (news:=[⟨p,q,0,0⟩]) (J2.out.own.alloc (.cells #[.int .i64 p,.int .i64 q,.int .i64 0,.int .i64 0] 65)) (b:=z2.heap.size) (heap_alloc_new _ _) (by rw[xn,HN.out];omega) (by simp) (by have:=J2.out.lt;simp;omega) 59;have J4:=aa (NJ.more (J2.out.next ((Below.refl _ _).alloc (Nat.le_refl _) (.cells #[.int .i64 p,.int .i64 q,.int .i64 0,.int .i64 0] 65))) ho hbl hty);have hS4:Kb [(w.heap.size,.cells #[.slice x.aS F.sts.length x.cS,.slice x.aL F.lms.length x.cL,.slice x.aP F.prs.length x.cP,.slice x.aV F.vrs.length x.cV] 27)] z4:=⟨hty _ _ _ _ hS3.1 (by decide),trivial⟩;have HRUN:=aa hrun;clear hrun ho hbl hty;refine hK.out _ _ (.inr hS3) ?_;clear hK K;(try simp only[Act.put,s3]);refine ae 12 rfl (by kernel_rfl) (fun K hK=>?_);refine oA rfl (s:=.tmp 45) (x:=.tmp 56) (t:=59) rfl rfl rfl HRUN.out ?_;refine hK.out _ _ (.inr hS4) ?_;clear hK K;(try simp only[Act.put,sA]);refine aR 13 5 (v2) hS4 ?_;(try simp only[s3]);refine aw (by kernel_rfl) ?_ _;rw[←HNA.out,uu] at J4;go_wp2_with fail;go_roundw
       case rel=>exact⟨st+1,by omega,by go_num,J4⟩
       case measure=>simp[intOf];omega
      ·obtain rfl:st=F.sts.length:=by omega
       have J6:Hid (NJ w x F u5 (iR F (k+1)) wE):=aa (by rw[←xR];exact J5.out);clear J J5;go_wp2_with fail;go_roundw
       case rel=>exact⟨k+1,by omega,by go_num,J6⟩
       case measure=>simp[intOf];omega
    ·have hlt5:decide ((k:Int)+1<(F.lms.length:Int))=false:=by simp;omega
     have hkb:(k:Int)+1≤1000:=by omega
     have hkk:k=F.lms.length-1:=by omega
     rw[hkk] at J;clear hkk;go_wp2_with fail;go_ret2;exact⟨⟨_,rfl,J.out.own⟩,J.out.b⟩
theorem rNature_any (w:World) (x:FV) (F:Fld) (h:FldAt w x F) :
 Calls prog 90 #[x.val F] w fun e w'=>(∃v,e=.returned (.tuple #[v,.int .i64 F.check])∧w'.ownsRow w.heap.size 65 4 v (jm F).length (bh (jm F)))∧Below w.heap.size w w':=by
 unfold jm
 by_cases hF:F.check=0
 ·rw[hF,if_pos rfl]
  exact rnature_ok w x F hF h
 rw[if_neg hF];obtain⟨w0,hw0⟩:∃W,W=w.alloc (.cells (x.arr F) 27):=⟨_,rfl⟩;have B0:=aa (show Below w.heap.size w w0 by rw[hw0];exact aD);have X0:=aa (show Kb [(w.heap.size,.cells (x.arr F) 27)] w0 by rw[hw0];exact Kb.alloc trivial);have HCF:=aa (refCheckField_any w0 x F (h.below B0.out));obtain⟨z,hz⟩:=ag F.check;rw[hz] at HCF hF ⊢
 have hzb:(z != 0)=true:=by simpa using hF
 clear hz h hF;have kk:=ak X0.out.1
 unfold FV.val FV.arr at *
 go_enter func90,ntmps90;go_upto_region 1 with fail;rw[←hw0];clear hw0;go_wp2_with fail;refine HCF.out.mono ?_;rintro e w1 ⟨rfl,hb1⟩;have B1:=bU B0 hb1;clear hb1 HCF X0 kk;go_wp2_with fail;go_ret2;exact⟨⟨_,rfl,fI _ _⟩,B1.out⟩
theorem rname4_any (s:ByteArray) (w:World) (hs:s.size≤9223372036854775807) :
 Calls prog 169 #[.string s] w fun e w'=>e=.returned (.bool (bI s))∧w=w':=by
 obtain⟨P,hP⟩:=ag (bI s);rw[hP]
 by_cases h1:s.size<1
 ·obtain rfl:false=P:=by rw[←hP];unfold bI;simp;omega
  have d1:decide ((s.size:Int)<1)=true:=by simp;omega
  clear h1 hP;go_enter func169,ntmps169;go_wp2_with fail;go_ret;exact⟨rfl,rfl⟩
 have d1:decide ((s.size:Int)<1)=false:=by simp;omega
 by_cases h2:24<s.size
 ·obtain rfl:false=P:=by rw[←hP];unfold bI;simp;omega
  have d2:decide ((s.size:Int)>24)=true:=by simp;omega
  have d2':decide (24<s.size)=true:=by simp;omega
  clear h1 h2 hP;go_enter func169,ntmps169;go_wp2_with fail;go_ret;exact⟨rfl,rfl⟩
 have d2:decide ((s.size:Int)>24)=false:=by simp;omega
 have d2':decide (24<s.size)=false:=by simp;omega
 have h0:=zK s 0 (by omega)
 have hpos:0<s.size:=by omega
 have HP:Hid ((iU s[0]&&s.data.toList.all dG)=P):=aa (by rw[←hP];unfold bI;rw[h0];simp[show 1≤s.size by omega,show s.size≤24 by omega]);clear hP h0
 by_cases hlow:iU s[0]=true
 rotate_left
 ·obtain rfl:false=P:=by rw[←HP.out];simp[hlow]
  have hb:¬(97≤s[0].toNat∧s[0].toNat≤122):=by rw[←pG];exact hlow
  clear hlow HP
  by_cases g:s[0].toNat<97
  ·have d3:decide ((s[0].toNat:Int)<97)=true:=by simp;omega
   clear hb;go_enter func169,ntmps169;go_wp2_with fail;go_ret;exact⟨rfl,rfl⟩
  ·have d3:decide ((s[0].toNat:Int)<97)=false:=by simp;omega
   have d4:decide ((s[0].toNat:Int)>122)=true:=by simp;omega
   clear hb;go_enter func169,ntmps169;go_wp2_with fail;go_ret;exact⟨rfl,rfl⟩
 have hb:97≤s[0].toNat∧s[0].toNat≤122:=(pG _).1 hlow
 have d3:decide ((s[0].toNat:Int)<97)=false:=by simp;omega
 have d4:decide ((s[0].toNat:Int)>122)=false:=by simp;omega
 have HL:=aa hlow;clear hlow hb;go_enter func169,ntmps169;go_wp2_with fail
 go_loop [3] (fun i=>∃k:Nat,k≤s.size∧i=.int .i64 k∧Hid ((s.data.toList.take k).all dG=true)) (fun i=>s.size-(intOf i).toNat)
 case atStart=>exact⟨0,Nat.zero_le _,rfl,aa rfl⟩
 case round =>
  obtain⟨k,hk,rfl,HA⟩:=hrel;clear d3 d4
  by_cases hlt:k<s.size
  ·have HS:=aa (ua s k hlt)
   have hni:=dM s[k];have HNO:Hid (dG s[k]=false→P=false):=aa (fun hn=>by rw[←HP.out,kL (l:=s.data.toList) (k:=k) (by simpa using hlt) rfl hn,Bool.and_false]);have HYES:Hid (dG s[k]=true→(s.data.toList.take (k+1)).all dG=true):=aa (fun hn=>by rw[HS.out,List.all_append,HA.out];simp[hn])
   by_cases g1:s[k].toNat<97
   ·have f1:decide ((s[k].toNat:Int)<97)=true:=by simp;omega
    by_cases g2:s[k].toNat<48
    ·have f2:decide ((s[k].toNat:Int)<48)=true:=by simp;omega
     by_cases g3:s[k].toNat=45
     ·have fe9Q:((s[k].toNat:Int) != 45)=false:=by simp;omega
      have HN2:=aa (HYES.out (hni.2 (by omega)));have HK:=aa hlt;clear hni HYES HNO g1 g2 g3;go_wp2_with fail;go_round
      case rel=>exact⟨k+1,HK.out,by go_num,HN2⟩
      case measure=>have:=HK.out;simp[intOf];omega
     ·have fe9Q:((s[k].toNat:Int) != 45)=true:=by simp;omega
      obtain rfl:=HNO.out (by rw[←Bool.not_eq_true,hni];omega);clear hni HYES HNO g1 g2 g3;go_wp2_with fail;go_ret;exact⟨rfl,rfl⟩
    ·have f2:decide ((s[k].toNat:Int)<48)=false:=by simp;omega
     by_cases g3:s[k].toNat≤57
     ·have f3:decide ((s[k].toNat:Int)>57)=false:=by simp;omega
      have HN2:=aa (HYES.out (hni.2 (by omega)));have HK:=aa hlt;clear hni HYES HNO g1 g2 g3;go_wp2_with fail;go_round
      case rel=>exact⟨k+1,HK.out,by go_num,HN2⟩
      case measure=>have:=HK.out;simp[intOf];omega
     ·have f3:decide ((s[k].toNat:Int)>57)=true:=by simp;omega
      have fe9Q:((s[k].toNat:Int) != 45)=true:=by simp;omega
      obtain rfl:=HNO.out (by rw[←Bool.not_eq_true,hni];omega);clear hni HYES HNO g1 g2 g3;go_wp2_with fail;go_ret;exact⟨rfl,rfl⟩
   ·have f1:decide ((s[k].toNat:Int)<97)=false:=by simp;omega
    by_cases g2:s[k].toNat≤122
    ·have f2:decide ((s[k].toNat:Int)>122)=false:=by simp;omega
     have HN2:=aa (HYES.out (hni.2 (by omega)));have HK:=aa hlt;clear hni HYES HNO g1 g2;go_wp2_with fail;go_round
     case rel=>exact⟨k+1,HK.out,by go_num,HN2⟩
     case measure=>have:=HK.out;simp[intOf];omega
    ·have f2:decide ((s[k].toNat:Int)>122)=true:=by simp;omega
     have f3:decide ((s[k].toNat:Int)<48)=false:=by simp;omega
     have f4:decide ((s[k].toNat:Int)>57)=true:=by simp;omega
     have fe9Q:((s[k].toNat:Int) != 45)=true:=by simp;omega
     obtain rfl:=HNO.out (by rw[←Bool.not_eq_true,hni];omega);clear hni HYES HNO g1 g2;go_wp2_with fail;go_ret;exact⟨rfl,rfl⟩
  ·have hall:s.data.toList.all dG=true:=by have:=HA.out;rwa [List.take_of_length_le (by simp;omega)] at this
   obtain rfl:true=P:=by rw[←HP.out,hall,HL.out];rfl
   clear hall;go_wp2_with fail;go_ret;exact⟨rfl,rfl⟩
def recR (F:Fld) (r:Rcd) (last:Int):Int:=if r.right=false∨r.id≤last then 1 else r.err F
theorem call_mid50 {V:World} {b:Nat} {r:Rcd} (h:V.heap[b]?=some (.cells r.vals 50 (0,0))):V.rangeAt b 5 r.call.vals.toList:=kH h rfl
theorem two_boxes50 (w:World) (x:FV) (F:Fld) (r:Rcd):Below w.heap.size w ((w.alloc (.cells (x.arr F) 27)).alloc (.cells r.vals 50))∧Kb [(w.heap.size+1,.cells r.vals 50),(w.heap.size,.cells (x.arr F) 27)] ((w.alloc (.cells (x.arr F) 27)).alloc (.cells r.vals 50)) :=
 ⟨(aD).alloc (by simp) _,by
   have:=Kb.alloc (o:=.cells r.vals 50) (Kb.alloc (W:=w) (o:=.cells (x.arr F) 27) (L:=[]) trivial)
   simpa using this⟩
theorem bounds_err {F:Fld} {c:Cll} {r:Int} (hF:F.check=0) (hc:dP F c=0) (h:bm r 0 1000000=true):ic F c r=(eo F c r,0):=by
 unfold ic dp;rw[if_neg (show ¬F.check≠0 by simpa using hF),if_neg (by simpa using hc),if_neg (by rw[h];simp)]
theorem checkRecord_any (w:World) (x:FV) (F:Fld) (r:Rcd) (last:Int) (hF:F.check=0) (h:FldAt w x F) (hk:0≤r.call.kind∧r.call.kind≤255) (hd:r.deed.size≤9223372036854775807) :
 Calls prog 91 #[x.val F,.agg r.vals,.int .i64 last] w fun e w'=>e=.returned (.int .i64 (recR F r last))∧Below w.heap.size w w':=by
 obtain⟨w0,hw0⟩:∃W,W=(w.alloc (.cells (x.arr F) 27)).alloc (.cells r.vals 50):=⟨_,rfl⟩;have B0:=aa (hw0▸(two_boxes50 w x F r).1);have X0:=aa (hw0▸(two_boxes50 w x F r).2);have HNM:=aa (fun W=>rname4_any r.deed W hd);have HCC:=aa (fun W (hb:Below w.heap.size w W)=>rCheckCall_any W x F r.call (h.below hb) hk)
 have HBB:=aa (fun(q:dP F r.call=0) (q2:bm r.id 0 1000000=true) W (hb:Below w.heap.size w W)=>(by
  have:=rBounds_any W x F r.call r.id (h.below hb) hk;rw[bounds_err hF q q2] at this
  exact this))
 have HCM:=aa (fun(V:World) (hV:V.heap[w.heap.size+1]?=some (.cells r.vals 50 (0,0)))=>call_mid50 hV)
 have hcf:dp F r.call=dP F r.call:=by unfold dp;rw[if_neg (by simpa using hF)]
 rw[hcf] at HCC;obtain⟨Z,hZ⟩:=ag (recR F r last);rw[hZ];unfold recR Rcd.err at hZ;obtain⟨ce9,hce⟩:=ag (dP F r.call);rw[hce] at HCC HBB hZ;obtain⟨nb,hnb⟩:=ag (bI r.deed);rw[hnb] at HNM
 have hrt:∀(_:¬(1≤r.id∧r.id≤1000000∧0≤r.day∧r.day≤100000∧nb=true∧1≤r.year∧r.year≤3000∧0≤r.rank∧r.rank≤1000)),r.right=false:=fun q=>by
  cases k:r.right
  ·rfl
  ·unfold Rcd.right bm at k
   rw[hnb] at k;simp at k;exact absurd (by obtain⟨⟨⟨⟨a,b⟩,c⟩,d⟩,e⟩:=k;exact⟨a.1,a.2,b.1,b.2,c,d.1,d.2,e.1,e.2⟩) q
 have hrt2:(1≤r.id∧r.id≤1000000∧0≤r.day∧r.day≤100000∧nb=true∧1≤r.year∧r.year≤3000∧0≤r.rank∧r.rank≤1000)→r.right=true:=fun q=>by
  unfold Rcd.right bm;rw[hnb];simp[q.2.2.2.2.1];omega
 obtain⟨id,day,deed,year,rank,kind,limit,other,fr,tt,sz,er,c1,c2,c3,c4,c5,c6⟩:=r
 dsimp only at *
 have H1:=aa (fun(q:¬(1≤id∧id≤1000000∧0≤day∧day≤100000∧nb=true∧1≤year∧year≤3000∧0≤rank∧rank≤1000∧last<id))=>(by
  rw[←hZ,if_pos]
  by_cases z:id≤last
  ·exact .inr z
  ·exact .inl (hrt (fun y=>q ⟨y.1,y.2.1,y.2.2.1,y.2.2.2.1,y.2.2.2.2.1,y.2.2.2.2.2.1,y.2.2.2.2.2.2.1,y.2.2.2.2.2.2.2.1,y.2.2.2.2.2.2.2.2,by omega⟩)):1=Z))
 have H2:=aa (fun(q:1≤id∧id≤1000000∧0≤day∧day≤100000∧nb=true∧1≤year∧year≤3000∧0≤rank∧rank≤1000∧last<id)=>(by
  rw[←hZ];refine(if_neg ?_).symm;rintro(z|z)
  ·rw[hrt2 ⟨q.1,q.2.1,q.2.2.1,q.2.2.2.1,q.2.2.2.2.1,q.2.2.2.2.2.1,q.2.2.2.2.2.2.1,q.2.2.2.2.2.2.2.1,q.2.2.2.2.2.2.2.2.1⟩] at z;cases z
  ·omega:(if ce9≠0 then ce9 else if kind=3∧c4≠year then 1 else 0)=Z))
 clear hZ hrt hrt2 hce hnb hcf h hF hd;unfold FV.val;have kr:=ak X0.out.1;unfold Rcd.vals at kr;dsimp only at kr
 by_cases t0:id<1
 ·obtain rfl:1=Z:=H1.out (by omega)
  clear H1 H2 HBB HCC HCM;go_enter func91,ntmps91;go_upto_region 1 with fail;rw[←hw0];clear hw0;go_wp2_with fail;go_ret;exact⟨rfl,B0.out⟩
 by_cases t1:1000000<id
 ·obtain rfl:1=Z:=H1.out (by omega)
  clear H1 H2 HBB HCC HCM;go_enter func91,ntmps91;go_upto_region 1 with fail;rw[←hw0];clear hw0;go_wp2_with fail;go_ret;exact⟨rfl,B0.out⟩
 by_cases t2:day<0
 ·obtain rfl:1=Z:=H1.out (by omega)
  clear H1 H2 HBB HCC HCM;go_enter func91,ntmps91;go_upto_region 1 with fail;rw[←hw0];clear hw0;go_wp2_with fail;go_ret;exact⟨rfl,B0.out⟩
 by_cases t3:100000<day
 ·obtain rfl:1=Z:=H1.out (by omega)
  clear H1 H2 HBB HCC HCM;go_enter func91,ntmps91;go_upto_region 1 with fail;rw[←hw0];clear hw0;go_wp2_with fail;go_ret;exact⟨rfl,B0.out⟩
 cases nb
 ·obtain rfl:1=Z:=H1.out (by simp)
  clear H1 H2 HBB HCC HCM;go_enter func91,ntmps91;go_upto_region 1 with fail;rw[←hw0];clear hw0;go_wp2_with (go_at_call 169;refine(HNM.out _).mono ?_;rintro e w1 ⟨rfl,rfl⟩);go_ret;exact⟨rfl,B0.out⟩
 by_cases t5:year<1
 ·obtain rfl:1=Z:=H1.out (by simp;omega)
  clear H1 H2 HBB HCC HCM;go_enter func91,ntmps91;go_upto_region 1 with fail;rw[←hw0];clear hw0;go_wp2_with (go_at_call 169;refine(HNM.out _).mono ?_;rintro e w1 ⟨rfl,rfl⟩);go_ret;exact⟨rfl,B0.out⟩
 by_cases t69Q:3000<year
 ·obtain rfl:1=Z:=H1.out (by simp;omega)
  clear H1 H2 HBB HCC HCM;go_enter func91,ntmps91;go_upto_region 1 with fail;rw[←hw0];clear hw0;go_wp2_with (go_at_call 169;refine(HNM.out _).mono ?_;rintro e w1 ⟨rfl,rfl⟩);go_ret;exact⟨rfl,B0.out⟩
 by_cases t79Q:rank<0
 ·obtain rfl:1=Z:=H1.out (by simp;omega)
  clear H1 H2 HBB HCC HCM;go_enter func91,ntmps91;go_upto_region 1 with fail;rw[←hw0];clear hw0;go_wp2_with (go_at_call 169;refine(HNM.out _).mono ?_;rintro e w1 ⟨rfl,rfl⟩);go_ret;exact⟨rfl,B0.out⟩
 by_cases t89Q:1000<rank
 ·obtain rfl:1=Z:=H1.out (by simp;omega)
  clear H1 H2 HBB HCC HCM;go_enter func91,ntmps91;go_upto_region 1 with fail;rw[←hw0];clear hw0;go_wp2_with (go_at_call 169;refine(HNM.out _).mono ?_;rintro e w1 ⟨rfl,rfl⟩);go_ret;exact⟨rfl,B0.out⟩
 by_cases t9:id≤last
 ·obtain rfl:1=Z:=H1.out (by simp;omega)
  clear H1 H2 HBB HCC HCM;go_enter func91,ntmps91;go_upto_region 1 with fail;rw[←hw0];clear hw0;go_wp2_with (go_at_call 169;refine(HNM.out _).mono ?_;rintro e w1 ⟨rfl,rfl⟩);go_ret;exact⟨rfl,B0.out⟩
 have hZ:=H2.out (by simp;omega);have HZ:=aa hZ
 have hid2:bm id 0 1000000=true:=by unfold bm;simp;omega
 have HBB2:=aa (fun q=>HBB.out q hid2);clear H1 H2 hZ hid2 HBB;unfold FV.val at HCC HBB2;unfold Cll.val at HCC HBB2
 have dd:decide (id≤last)=false:=by simp;omega
 go_enter func91,ntmps91;go_upto_region 1 with fail;rw[←hw0];clear hw0;go_upto_region 3 with (go_at_call 169;refine(HNM.out _).mono ?_;rintro e w1 ⟨rfl,rfl⟩);go_wp2_with (first|(refine ah rfl 27 _ rfl _ rfl w.heap.size rfl 27 _ (0,0) _ X0.out.2.1 underlying27 rfl (by kernel_rfl) ?_)|(refine wpList_load_mid rfl 48 _ rfl (w.heap.size+1) 5 rfl _ _ (HCM.out _ X0.out.1) underlying48 rfl (by kernel_rfl) ?_));refine(HCC.out _ B0.out).mono ?_;rintro e w1 ⟨rfl,hb1⟩;have X1:=aa (X0.out.next hb1);have B1:=bU B0 hb1;clear hb1 X0 B0 kr HCC;have kr:=ak X1.out.1;unfold Rcd.vals at kr;dsimp only at kr;have hZ:=HZ.out;clear HZ
 by_cases h0:ce9=0
 rotate_left
 ·rw[if_pos h0] at hZ
  subst hZ
  have hzb:(ce9 != 0)=true:=by simpa using h0
  clear h0 HBB2;go_wp2_with fail;go_ret;exact⟨rfl,B1.out⟩
 subst h0;rw[if_neg (by simp)] at hZ;have HBB3:=aa (HBB2.out rfl);clear HBB2
 by_cases h3:kind=3
 ·subst h3
  by_cases h4:c4=year
  rotate_left
  ·rw[if_pos ⟨rfl,h4⟩] at hZ
   subst hZ
   have h4b:(c4 != year)=true:=by simpa using h4
   clear h4 HBB3;go_wp2_with fail;go_ret;exact⟨rfl,B1.out⟩
  ·rw[if_neg (fun z=>z.2 h4)] at hZ
   subst hZ
   have h4b:(c4 != year)=false:=by simpa using h4
   clear h4;go_wp2_with (first|(refine ah rfl 27 _ rfl _ rfl w.heap.size rfl 27 _ (0,0) _ X1.out.2.1 underlying27 rfl (by kernel_rfl) ?_)|(refine wpList_load_mid rfl 48 _ rfl (w.heap.size+1) 5 rfl _ _ (HCM.out _ X1.out.1) underlying48 rfl (by kernel_rfl) ?_));refine(HBB3.out _ B1.out).mono ?_;rintro e w2 ⟨⟨v,rfl,hv⟩,hb2⟩;have B2:=bU B1 hb2;clear hv hb2;go_wp2_with fail;go_ret;exact⟨rfl,B2.out⟩
 ·rw[if_neg (fun z=>h3 z.1)] at hZ
  subst hZ;go_wp2_with (first|(refine ah rfl 27 _ rfl _ rfl w.heap.size rfl 27 _ (0,0) _ X1.out.2.1 underlying27 rfl (by kernel_rfl) ?_)|(refine wpList_load_mid rfl 48 _ rfl (w.heap.size+1) 5 rfl _ _ (HCM.out _ X1.out.1) underlying48 rfl (by kernel_rfl) ?_));refine(HBB3.out _ B1.out).mono ?_;rintro e w2 ⟨⟨v,rfl,hv⟩,hb2⟩;have B2:=bU B1 hb2;clear hv hb2;go_wp2_with fail;go_ret;exact⟨rfl,B2.out⟩
end Go.Proofs.YtkhemfnlflbniaaGreatDoor
