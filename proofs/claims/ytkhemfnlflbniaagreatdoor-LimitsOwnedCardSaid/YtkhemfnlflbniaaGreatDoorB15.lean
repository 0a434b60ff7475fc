/- Merged text 15 of the base: E33, E34, Fr, Frf, Frr, Ct, Ch, Cg9, Fb, E41. No conditions beyond those stated. -/
import Derived.Test.YtkhemfnlflbniaaGreatDoorB13
import Derived.Test.YtkhemfnlflbniaaGreatDoorB12
import Derived.Test.YtkhemfnlflbniaaGreatDoorRows
import Derived.Test.YtkhemfnlflbniaaGreatDoorB04
import Derived.WalkKit
import Derived.ProofKit
import Derived.OpenShut
import Derived.Carry
import Derived.Lib.SmallJoins
import Derived.Deep.Slices
import Derived.Test.YtkhemfnlflbniaaGreatDoorB07
import Derived.ChangeMaps5
import Derived.Test.YtkhemfnlflbniaaGreatDoorCards
import Derived.LaidByTextLater
import Derived.SevenTiedAt
import Derived.LaidOnce
import Derived.KernelRfl
import Derived.Test.YtkhemfnlflbniaaGreatDoorB08
import Derived.Test.YtkhemfnlflbniaaGreatDoorB14
import Derived.Great.Walk
import Derived.Test.YtkhemfnlflbniaaGreatDoorB16
import Derived.Test.YtkhemfnlflbniaaGreatDoorB17
import Derived.Test.YtkhemfnlflbniaaGreatDoorB18
set_option maxRecDepth 100000
set_option maxHeartbeats 4000000
namespace Go.Proofs.YtkhemfnlflbniaaGreatDoor
open Go Go.RowKit Go.Shelf Go.Proofs.Tryz
def dL (l:List ByteArray):Bool:=!(l.any fun s=>decide (100<s.size))
def oq (F:Fld):Bool:=decide (F.sts.length≤20)&&decide (F.lms.length≤20)&&decide (F.prs.length≤60)&&decide (F.vrs.length≤60)&&dL (F.sts.map Sta.name)&&dL F.lms&&dL (F.prs.map Par.name)
def lz (F:Fld) (l:List Rcd):Bool:=oq F&&decide (F.sts.length≤6)&&decide (F.lms.length≤5)&&decide (F.prs.length≤12)&&decide (l.length≤14)&&dL (l.map Rcd.deed)
theorem fL {l:List ByteArray} {k:Nat} (hk:k<l.length) (h:100<l[k].size):dL l=false:=by
 unfold dL;rw[Bool.not_eq_false',List.any_eq_true];exact⟨_,List.getElem_mem hk,decide_eq_true h⟩
theorem gA {l:List ByteArray} (h:∀k (hk:k<l.length),l[k].size≤100):dL l=true:=by
 unfold dL;rw[Bool.not_eq_true',List.any_eq_false];intro s hs;obtain⟨k,hk,rfl⟩:=List.getElem_of_mem hs;have:=h k hk;simp only[decide_eq_true_eq];omega
theorem vF {l:List ByteArray}:dL l=true↔∀s∈l,s.size≤100:=by
 unfold dL;rw[Bool.not_eq_true',List.any_eq_false]
 constructor
 ·intro h s hs
  have:=h s hs;simp only[decide_eq_true_eq] at this;omega
 ·intro h s hs
  have:=h s hs;simp only[decide_eq_true_eq];omega
theorem uy (w:World) (x:FV) (F:Fld) (h:FldAt w x F):Calls prog 31 #[x.val F] w fun e w'=>e=.returned (.bool (oq F))∧Below w.heap.size w w':=by
 obtain⟨w0,hw0⟩:∃W,W=w.alloc (.cells (x.arr F) 27):=⟨_,rfl⟩;have B0:=aa (show Below w.heap.size w w0 by rw[hw0];exact aD);have X0:=aa (show w0.heap[w.heap.size]?=some (.cells (x.arr F) 27 (0,0)) by rw[hw0];exact heap_alloc_new _ _);have HF:=aa (fun W (hb:Below w0.heap.size w0 W)=>(h.below B0.out).below hb);have HXX:=aa (fun W (hb:Below w0.heap.size w0 W)=>ak (ac hb (lt_of_block X0.out) X0.out));have HLE:=aa (show F.sts.length≤9223372036854775807∧F.lms.length≤9223372036854775807∧F.prs.length≤9223372036854775807∧F.vrs.length≤9223372036854775807 from⟨by have:=h.ls;omega,by have:=h.ll;omega,by have:=h.lp;omega,by have:=h.lv;omega⟩);obtain⟨R,hR⟩:=ag (oq F);rw[hR];unfold oq at hR;have kk:=ak X0.out;have hle:=HLE.out;unfold FV.arr at kk HXX;have HNM:=aa (show(∀s∈F.sts,s.name.size≤9223372036854775807)∧(∀s∈F.lms,s.size≤9223372036854775807)∧(∀s∈F.prs,s.name.size≤9223372036854775807) from⟨fun s hs=>h.nm (F.sts.map Sta.name) (by simp[Fld.names]) _ (List.mem_map.2 ⟨s,hs,rfl⟩),fun s hs=>h.nm F.lms (by simp[Fld.names]) s hs,fun s hs=>h.nm (F.prs.map Par.name) (by simp[Fld.names]) _ (List.mem_map.2 ⟨s,hs,rfl⟩)⟩);clear h;go_enter func31,ntmps31;go_upto_region 1 with fail
 try unfold FV.val FV.arr
 rw[show w.alloc (.cells #[.slice x.aS F.sts.length x.cS,.slice x.aL F.lms.length x.cL,.slice x.aP F.prs.length x.cP,.slice x.aV F.vrs.length x.cV] 27)=w0 from hw0.symm];clear hw0
 by_cases c0:F.sts.length≤20
 rotate_left
 ·have d0:decide (20<(F.sts.length:Int))=true:=by simp;omega
  have g0:decide (F.sts.length≤20)=false:=by simp;omega
  have HP:=aa (show false=R by rw[←hR,g0];simp);clear hR;go_wp2_with fail;go_ret;exact⟨by rw[←HP.out];rfl,B0.out⟩
 have d0:decide (20<(F.sts.length:Int))=false:=by simp;omega
 have g0:decide (F.sts.length≤20)=true:=by simp;omega
 by_cases c1:F.lms.length≤20
 rotate_left
 ·have d1:decide (20<(F.lms.length:Int))=true:=by simp;omega
  have g1:decide (F.lms.length≤20)=false:=by simp;omega
  have HP:=aa (show false=R by rw[←hR,g0,g1];simp);clear hR;go_wp2_with fail;go_ret;exact⟨by rw[←HP.out];rfl,B0.out⟩
 have d1:decide (20<(F.lms.length:Int))=false:=by simp;omega
 have g1:decide (F.lms.length≤20)=true:=by simp;omega
 by_cases c2:F.prs.length≤60
 rotate_left
 ·have d2:decide (60<(F.prs.length:Int))=true:=by simp;omega
  have g2:decide (F.prs.length≤60)=false:=by simp;omega
  have HP:=aa (show false=R by rw[←hR,g0,g1,g2];simp);clear hR;go_wp2_with fail;go_ret;exact⟨by rw[←HP.out];rfl,B0.out⟩
 have d2:decide (60<(F.prs.length:Int))=false:=by simp;omega
 have g2:decide (F.prs.length≤60)=true:=by simp;omega
 by_cases c3:F.vrs.length≤60
 rotate_left
 ·have d3:decide (60<(F.vrs.length:Int))=true:=by simp;omega
  have g3:decide (F.vrs.length≤60)=false:=by simp;omega
  have HP:=aa (show false=R by rw[←hR,g0,g1,g2,g3];simp);clear hR;go_wp2_with fail;go_ret;exact⟨by rw[←HP.out];rfl,B0.out⟩
 have d3:decide (60<(F.vrs.length:Int))=false:=by simp;omega
 have g3:decide (F.vrs.length≤60)=true:=by simp;omega
 rw[g0,g1,g2,g3] at hR;simp only[Bool.true_and] at hR;have HR:=aa hR;clear hR g0 g1 g2 g3;go_wp2_with fail;clear kk d0 d1 d2 d3
 go_loopw [3] (fun i wr=>∃k:Nat,k≤F.sts.length∧i=.int .i64 k∧Hid (∀j (hj:j<F.sts.length),j<k→F.sts[j].name.size≤100)∧Hid (Below w0.heap.size w0 wr)) (fun i _=>F.sts.length-(intOf i).toNat)
 case atStart=>exact⟨0,Nat.zero_le _,rfl,aa (fun j _ hj=>absurd hj (Nat.not_lt_zero _)),aa (Below.refl _ _)⟩
 case round =>
  obtain⟨k,hk,rfl,hall,hb⟩:=hrel;have hle2:=HLE.out;have kk:=HXX.out _ hb.out
  by_cases hlt:k<F.sts.length
  ·obtain⟨rb,ro,e1,hbl,hcc⟩:=RecsAt.at (HF.out _ hb.out).st hlt
   obtain⟨s,hs⟩:=ag (F.sts[k]);rw[hs] at hcc;have hz:wr.cell? ⟨rb,ro+k*2,none⟩=some (.string s.name):=(hcc 0 (by decide)).trans rfl;have HS:=aa hs;have HC:=aa hcc;rw[e1] at kk
   have q0:(0:Int)≤(k:Int):=by omega
   have q1:(k:Int)<(F.sts.length:Int):=by omega
   have hsz:s.name.size≤9223372036854775807:=by rw[←HS.out];exact HNM.out.1 _ (List.getElem_mem hlt)
   clear hs hcc
   by_cases hq:s.name.size≤100
   ·have dq:decide (100<(s.name.size:Int))=false:=by simp;omega
    go_wp2_with fail;go_roundw
    case rel=>exact⟨k+1,by omega,by go_num,aa (fun j hj hjk=>by
     by_cases z:j<k
     ·exact hall.out j hj z
     ·obtain rfl:j=k:=by omega
      rw[HS.out];exact hq),hb⟩
    case measure=>simp[intOf];omega
   ·have dq:decide (100<(s.name.size:Int))=true:=by simp;omega
    have hz2:dL (F.sts.map Sta.name)=false:=fL (k:=k) (by simpa using hlt) (by rw[List.getElem_map,HS.out];omega);have HP:=aa (show false=R by rw[←HR.out,hz2];simp);clear hz2;go_wp2_with fail;go_ret;exact⟨by rw[←HP.out];rfl,bB B0.out hb.out⟩
  obtain rfl:k=F.sts.length:=by omega
  have HN0:=aa (show dL (F.sts.map Sta.name)=true from gA (fun j hj=>by rw[List.getElem_map];exact hall.out j (by simpa using hj) (by simpa using hj)));clear hall hlt hk;go_wp2_with fail;clear kk;have HB0:=hb;clear hb
  go_loopw [4] (fun i wr=>∃k:Nat,k≤F.lms.length∧i=.int .i64 k∧Hid (∀j (hj:j<F.lms.length),j<k→F.lms[j].size≤100)∧Hid (Below w0.heap.size w0 wr)) (fun i _=>F.lms.length-(intOf i).toNat)
  case atStart=>exact⟨0,Nat.zero_le _,rfl,aa (fun j _ hj=>absurd hj (Nat.not_lt_zero _)),HB0⟩
  case round =>
   obtain⟨k,hk,rfl,hall,hb⟩:=hrel;have hle2:=HLE.out;have kk:=HXX.out _ hb.out
   by_cases hlt:k<F.lms.length
   ·obtain⟨rb,ro,e1,hbl,hcc⟩:=RecsAt.at (HF.out _ hb.out).lm hlt
    obtain⟨s,hs⟩:=ag (F.lms[k]);rw[hs] at hcc
    have hz:wr.cell? ⟨rb,ro+k,none⟩=some (.string s):=by simpa [cO] using hcc 0 (by decide)
    have HS:=aa hs;have HC:=aa hcc;rw[e1] at kk
    have q0:(0:Int)≤(k:Int):=by omega
    have q1:(k:Int)<(F.lms.length:Int):=by omega
    have hsz:s.size≤9223372036854775807:=by rw[←HS.out];exact HNM.out.2.1 _ (List.getElem_mem hlt)
    clear hs hcc
    by_cases hq:s.size≤100
    ·have dq:decide (100<(s.size:Int))=false:=by simp;omega
     go_wp2_with fail;go_roundw
     case rel=>exact⟨k+1,by omega,by go_num,aa (fun j hj hjk=>by
      by_cases z:j<k
      ·exact hall.out j hj z
      ·obtain rfl:j=k:=by omega
       rw[HS.out];exact hq),hb⟩
     case measure=>simp[intOf];omega
    ·have dq:decide (100<(s.size:Int))=true:=by simp;omega
     have hz2:dL F.lms=false:=fL (k:=k) (by simpa using hlt) (by rw[HS.out];omega);have HP:=aa (show false=R by rw[←HR.out,hz2,HN0.out];simp);clear hz2;go_wp2_with fail;go_ret;exact⟨by rw[←HP.out];rfl,bB B0.out hb.out⟩
   obtain rfl:k=F.lms.length:=by omega
   have HN1:=aa (show dL F.lms=true from gA (fun j hj=>by exact hall.out j hj hj));clear hall hlt hk;go_wp2_with fail;clear kk;have HB1:=hb;clear hb
   go_loopw [5] (fun i wr=>∃k:Nat,k≤F.prs.length∧i=.int .i64 k∧Hid (∀j (hj:j<F.prs.length),j<k→F.prs[j].name.size≤100)∧Hid (Below w0.heap.size w0 wr)) (fun i _=>F.prs.length-(intOf i).toNat)
   case atStart=>exact⟨0,Nat.zero_le _,rfl,aa (fun j _ hj=>absurd hj (Nat.not_lt_zero _)),HB1⟩
   case round =>
    obtain⟨k,hk,rfl,hall,hb⟩:=hrel;have hle2:=HLE.out;have kk:=HXX.out _ hb.out
    by_cases hlt:k<F.prs.length
    ·obtain⟨rb,ro,e1,hbl,hcc⟩:=RecsAt.at (HF.out _ hb.out).pr hlt
     obtain⟨s,hs⟩:=ag (F.prs[k]);rw[hs] at hcc;have hz:wr.cell? ⟨rb,ro+k*4,none⟩=some (.string s.name):=(hcc 0 (by decide)).trans rfl;have HS:=aa hs;have HC:=aa hcc;rw[e1] at kk
     have q0:(0:Int)≤(k:Int):=by omega
     have q1:(k:Int)<(F.prs.length:Int):=by omega
     have hsz:s.name.size≤9223372036854775807:=by rw[←HS.out];exact HNM.out.2.2 _ (List.getElem_mem hlt)
     clear hs hcc
     by_cases hq:s.name.size≤100
     ·have dq:decide (100<(s.name.size:Int))=false:=by simp;omega
      go_wp2_with fail;go_roundw
      case rel=>exact⟨k+1,by omega,by go_num,aa (fun j hj hjk=>by
       by_cases z:j<k
       ·exact hall.out j hj z
       ·obtain rfl:j=k:=by omega
        rw[HS.out];exact hq),hb⟩
      case measure=>simp[intOf];omega
     ·have dq:decide (100<(s.name.size:Int))=true:=by simp;omega
      have hz2:dL (F.prs.map Par.name)=false:=fL (k:=k) (by simpa using hlt) (by rw[List.getElem_map,HS.out];omega);have HP:=aa (show false=R by rw[←HR.out,hz2,HN0.out,HN1.out];simp);clear hz2;go_wp2_with fail;go_ret;exact⟨by rw[←HP.out];rfl,bB B0.out hb.out⟩
    obtain rfl:k=F.prs.length:=by omega
    have HN2:=aa (show dL (F.prs.map Par.name)=true from gA (fun j hj=>by rw[List.getElem_map];exact hall.out j (by simpa using hj) (by simpa using hj)));clear hall hlt hk;have HP:=aa (show true=R by rw[←HR.out,HN0.out,HN1.out,HN2.out];rfl);go_wp2_with fail;go_ret;exact⟨by rw[←HP.out];rfl,bB B0.out hb.out⟩
theorem Bi (w:World) (x:FV) (F:Fld) (ar:Option Addr) (cr:Nat) (l:List Rcd) (h:FldAt w x F) (hr:cI w ar l) (hn:l.length≤9223372036854775807) (hd:∀r∈l,r.deed.size≤9223372036854775807) :
 Calls prog 22 #[x.val F,.slice ar l.length cr] w fun e w'=>e=.returned (.bool (lz F l))∧Below w.heap.size w w':=by
 obtain⟨w0,hw0⟩:∃W,W=w.alloc (.cells (x.arr F) 27):=⟨_,rfl⟩;have B0:=aa (show Below w.heap.size w w0 by rw[hw0];exact aD);have X0:=aa (show w0.heap[w.heap.size]?=some (.cells (x.arr F) 27 (0,0)) by rw[hw0];exact heap_alloc_new _ _);have HRR:=aa (fun W (hb:Below w0.heap.size w0 W)=>(hr.below B0.out (Nat.le_refl _)).below hb (Nat.le_refl _));have HLE:=aa (show F.sts.length≤9223372036854775807∧F.lms.length≤9223372036854775807∧F.prs.length≤9223372036854775807∧l.length≤9223372036854775807 from⟨by have:=h.ls;omega,by have:=h.ll;omega,by have:=h.lp;omega,hn⟩);have HSH:=aa (uy w0 x F (h.below B0.out));have HDD:=aa hd;obtain⟨R,hR⟩:=ag (lz F l);rw[hR];unfold lz at hR;obtain⟨sb,hsb⟩:=ag (oq F);rw[hsb] at hR HSH;have kk:=ak X0.out;have hle:=HLE.out;unfold FV.arr at kk;unfold FV.val FV.arr at HSH;clear h hr hn hsb hd;go_enter func22,ntmps22;go_upto_region 1 with fail
 try unfold FV.val FV.arr
 rw[show w.alloc (.cells #[.slice x.aS F.sts.length x.cS,.slice x.aL F.lms.length x.cL,.slice x.aP F.prs.length x.cP,.slice x.aV F.vrs.length x.cV] 27)=w0 from hw0.symm];clear hw0;go_wp2_with fail;refine HSH.out.mono ?_;rintro e w1 ⟨rfl,hb1⟩;have HB1:=aa hb1;have kk:=ak (ac hb1 (lt_of_block X0.out) X0.out);unfold FV.arr at kk;clear hb1 HSH;cases sb
 ·have HP:=aa (show false=R by rw[←hR];simp)
  clear hR;go_wp2_with fail;go_ret;exact⟨by rw[←HP.out];rfl,bB B0.out HB1.out⟩
 simp only[Bool.true_and] at hR
 by_cases c0:F.sts.length≤6
 rotate_left
 ·have d0:decide (6<(F.sts.length:Int))=true:=by simp;omega
  have g0:decide (F.sts.length≤6)=false:=by simp;omega
  have HP:=aa (show false=R by rw[←hR,g0];simp);clear hR;go_wp2_with fail;go_ret;exact⟨by rw[←HP.out];rfl,bB B0.out HB1.out⟩
 have d0:decide (6<(F.sts.length:Int))=false:=by simp;omega
 have g0:decide (F.sts.length≤6)=true:=by simp;omega
 by_cases c1:F.lms.length≤5
 rotate_left
 ·have d1:decide (5<(F.lms.length:Int))=true:=by simp;omega
  have g1:decide (F.lms.length≤5)=false:=by simp;omega
  have HP:=aa (show false=R by rw[←hR,g0,g1];simp);clear hR;go_wp2_with fail;go_ret;exact⟨by rw[←HP.out];rfl,bB B0.out HB1.out⟩
 have d1:decide (5<(F.lms.length:Int))=false:=by simp;omega
 have g1:decide (F.lms.length≤5)=true:=by simp;omega
 by_cases c2:F.prs.length≤12
 rotate_left
 ·have d2:decide (12<(F.prs.length:Int))=true:=by simp;omega
  have g2:decide (F.prs.length≤12)=false:=by simp;omega
  have HP:=aa (show false=R by rw[←hR,g0,g1,g2];simp);clear hR;go_wp2_with fail;go_ret;exact⟨by rw[←HP.out];rfl,bB B0.out HB1.out⟩
 have d2:decide (12<(F.prs.length:Int))=false:=by simp;omega
 have g2:decide (F.prs.length≤12)=true:=by simp;omega
 by_cases c3:l.length≤14
 rotate_left
 ·have d3:decide (14<(l.length:Int))=true:=by simp;omega
  have g3:decide (l.length≤14)=false:=by simp;omega
  have HP:=aa (show false=R by rw[←hR,g0,g1,g2,g3];simp);clear hR;go_wp2_with fail;go_ret;exact⟨by rw[←HP.out];rfl,bB B0.out HB1.out⟩
 have d3:decide (14<(l.length:Int))=false:=by simp;omega
 have g3:decide (l.length≤14)=true:=by simp;omega
 rw[g0,g1,g2,g3] at hR;simp only[Bool.true_and] at hR;have HR:=aa hR;clear hR g0 g1 g2 g3;go_wp2_with fail;clear kk d0 d1 d2 d3
 go_loopw [5] (fun i wr=>∃k:Nat,k≤l.length∧i=.int .i64 k∧Hid (∀j (hj:j<l.length),j<k→l[j].deed.size≤100)∧Hid (Below w0.heap.size w0 wr)) (fun i _=>l.length-(intOf i).toNat)
 case atStart=>exact⟨0,Nat.zero_le _,rfl,aa (fun j _ hj=>absurd hj (Nat.not_lt_zero _)),HB1⟩
 case round =>
  obtain⟨k,hk,rfl,hall,hb⟩:=hrel;have hle2:=HLE.out
  by_cases hlt:k<l.length
  ·obtain⟨rb,ro,rfl,hbl,hcc⟩:=RecsAt.at (HRR.out _ hb.out) hlt
   obtain⟨s,hs⟩:=ag (l[k]);rw[hs] at hcc;have hz:wr.cell? ⟨rb,ro+k*18+2,none⟩=some (.string s.deed):=(hcc 2 (by decide)).trans rfl;have HS:=aa hs
   have q0:(0:Int)≤(k:Int):=by omega
   have q1:(k:Int)<(l.length:Int):=by omega
   have hsz:s.deed.size≤9223372036854775807:=by rw[←HS.out];exact HDD.out _ (List.getElem_mem hlt)
   clear hs hcc
   by_cases hq:s.deed.size≤100
   ·have dq:decide (100<(s.deed.size:Int))=false:=by simp;omega
    go_wp2_with fail;go_roundw
    case rel=>exact⟨k+1,by omega,by go_num,aa (fun j hj hjk=>by
     by_cases z:j<k
     ·exact hall.out j hj z
     ·obtain rfl:j=k:=by omega
      rw[HS.out];exact hq),hb⟩
    case measure=>simp[intOf];omega
   ·have dq:decide (100<(s.deed.size:Int))=true:=by simp;omega
    have hz2:dL (l.map Rcd.deed)=false:=fL (k:=k) (by simpa using hlt) (by rw[List.getElem_map,HS.out];omega);have HP:=aa (show false=R by rw[←HR.out,hz2]);clear hz2;go_wp2_with fail;go_ret;exact⟨by rw[←HP.out];rfl,bB B0.out hb.out⟩
  obtain rfl:k=l.length:=by omega
  have HP:=aa (show true=R by rw[←HR.out];exact(gA (fun j hj=>by rw[List.getElem_map];exact hall.out j (by simpa using hj) (by simpa using hj))).symm);clear hall hlt hk;go_wp2_with fail;go_ret;exact⟨by rw[←HP.out];rfl,bB B0.out hb.out⟩
theorem tN {F:Fld} {l:List Rcd} (h:lz F l=true):(F.sts.length≤6∧F.lms.length≤5∧F.prs.length≤12)∧l.length≤14∧∀r∈l,r.deed.size≤100:=by
 unfold lz at h;simp only[Bool.and_eq_true,decide_eq_true_eq] at h;obtain⟨⟨⟨⟨⟨_,h1⟩,h2⟩,h3⟩,h4⟩,h5⟩:=h;exact⟨⟨h1,h2,h3⟩,h4,fun r hr=>vF.1 h5 _ (List.mem_map.2 ⟨r,hr,rfl⟩)⟩
theorem A9 {F:Fld} {l:List Rcd} (h:lz F l=true) (hk:∀r∈l,0≤r.call.kind∧r.call.kind≤255):l.length≤100000∧∀r∈l,(0≤r.call.kind∧r.call.kind≤255)∧r.deed.size≤9223372036854775807:=by
 have:=tN h;exact⟨by omega,fun r hr=>⟨hk r hr,by have:=this.2.2 r hr;omega⟩⟩
end Go.Proofs.YtkhemfnlflbniaaGreatDoor
namespace Go.Proofs.YtkhemfnlflbniaaGreatDoor
open Go Go.ChangeShapes Go.WideShapes Go.ChangeAt Go.RowKit Go.Joins Go.Deep Go.Proofs.Tryz
theorem Tryz.laidOut:laidOutB prog=true:=by kernel_rfl
theorem Tryz.own:ownKnob Tryz.prog.godebug=none:=by kernel_rfl
theorem Tryz.fact1:laidOutB prog=true:=by kernel_rfl
theorem Tryz.fact2:mapsRowed prog=true:=by kernel_rfl
theorem Tryz.fact6:(Tryz.prog.stops==[])=true:=by kernel_rfl
theorem Tryz.fact8:(Tryz.prog.stopKnobs==[])=true:=by kernel_rfl
theorem Tryz.fact22:Tryz.prog.plainKeys=true:=by kernel_rfl
theorem Tryz.fact24:Tryz.prog.stopsHeard=true:=by kernel_rfl
theorem Tryz.head : ∃ l : List Char, Tryz.prog.initOrder = String.ofList l ∧ (stripLifts liftWords (behindMainWord (wordsSigns l))).1 = [] ∧ ((stripLifts liftWords (behindMainWord (wordsSigns l))).2.head? == some "cut".toList) = true ∧
 (match behindMainWord (wordsSigns l) with | c :: _ => (c == "gc".toList || c == "spec".toList) = false ∧ (c == "cut".toList) = true ∧ (some c == some "carried".toList) = false | [] => False) := by
 unfold prog Tryz.progTables;dsimp only;refine⟨_,rfl,?_,?_,?_⟩
 ·kernel_rfl
 ·kernel_rfl
 ·exact⟨by kernel_rfl,by kernel_rfl,by kernel_rfl⟩
theorem Tryz.laysLater:Tryz.prog.laysLater=false:=by kernel_rfl
theorem Tryz.bearsReflect:Tryz.prog.bearsReflect=false:=by kernel_rfl
theorem Tryz.doorFits:Tryz.prog.doorFits []=true:=by kernel_rfl
def kF (P : Program) : Prop := ∃ l : List Char, P.initOrder = String.ofList l ∧ (stripLifts liftWords (behindMainWord (wordsSigns l))).1 = [] ∧ ((stripLifts liftWords (behindMainWord (wordsSigns l))).2.head? == some "cut".toList) = true ∧
 (match behindMainWord (wordsSigns l) with | c :: _ => (c == "gc".toList || c == "spec".toList) = false ∧ (c == "cut".toList) = true ∧ (some c == some "carried".toList) = false | [] => False)
theorem rp {P:Program} (h:kF P):P.headLifts=[]:=by
 obtain⟨l,hl,h1,h2,h3⟩:=h;unfold Program.headLifts;rw[hl,String.toList_ofList];simp only[h1,ite_self]
theorem sF {P:Program} (h:kF P) (g1:P.laysLater=false) (g2:P.bearsReflect=false) (g3:P.doorFits []=true):P.mayEnter=true:=by
 obtain⟨l,hl,h1,h2,h3⟩:=h;unfold Program.mayEnter;rw[hl,String.toList_ofList]
 cases hw:behindMainWord (wordsSigns l) with
 | nil=>rw[hw] at h3;exact h3.elim
 | cons c rest =>
   rw[hw] at h1 h2 h3;simp only[h1,h2,g1,g2,g3];simp
theorem pB {P:Program} (h:kF P):P.liftsFinal=false:=by
 have hh:=rp h;obtain⟨l,hl,h1,h2,h3⟩:=h;unfold Program.liftsFinal;rw[hh,hl,String.toList_ofList]
 cases hw:behindMainWord (wordsSigns l) with
 | nil=>rw[hw] at h3;exact h3.elim
 | cons c rest =>
   rw[hw] at h3;simp only[List.head?_cons,h3.2.2]
   rfl
theorem Ah {P:Program} (h:kF P):P.make=some .cut:=by
 obtain⟨l,hl,h1,h2,h3⟩:=h;unfold Program.make;rw[hl,String.toList_ofList]
 cases hw:behindMainWord (wordsSigns l) with
 | nil=>rw[hw] at h3;exact h3.elim
 | cons c rest =>
   rw[hw] at h3;simp only[h3.1,h3.2.1]
   rfl
theorem Tryz.headCut:kF prog:=Tryz.head
theorem Tryz.fact25:Tryz.prog.mayEnter=true:=sF Tryz.headCut Tryz.laysLater Tryz.bearsReflect Tryz.doorFits
theorem Tryz.fact26:Tryz.prog.liftsFinal=false:=pB Tryz.headCut
theorem Tryz.fact27:Tryz.prog.make=some .cut:=Ah Tryz.headCut
def tY (t:TypeId):Prop:=Tryz.prog.readableRec t=true∧t<Tryz.prog.types.size
section
variable {H:Type} {enc:TypeId×Value→H}
theorem wI {α:Type} {p:Nat→α→Prop}:∀n,(∀i,i<n→∃x,p i x)→∃l:List α,l.length=n∧∀i (h:i<l.length),p i l[i]
 | 0,_=>⟨[],rfl,fun i h=>by simp at h⟩
 | n+1,h=>by
   obtain⟨l,hl,hp⟩:=wI n (fun i hi=>h i (by omega));obtain⟨x,hx⟩:=h n (by omega);refine⟨l++[x],by simp[hl],fun i hi=>?_⟩
   by_cases e:i<l.length
   ·rw[List.getElem_append_left e];exact hp i e
   ·have e2:i=n:=by simp at hi;omega
    subst e2;rw[List.getElem_append_right (by omega)];simpa [hl] using hx
theorem oI {w:World} {a:Addr} {v:Value} (h:w.cell? a=some v):a.spot=none∧a.block<w.heap.size:=by
 refine⟨?_,?_⟩
 ·cases hsp:a.spot with
  | none=>rfl
  | some s =>
    simp only[World.cell?] at h
    split at h
    ·simp[hsp] at h
    ·cases h
 ·apply Classical.byContradiction
  intro hn;have:w.heap[a.block]?=none:=Array.getElem?_eq_none (by omega);simp[World.cell?,this] at h
theorem wZ {b o i:Nat}:(⟨b,o,none⟩:Addr).add i=⟨b,o+i,none⟩:=by
 unfold Addr.add
 split<;>simp_all
theorem bA {W:World} {n:Nat} {v:Value} {y:DataW H×List MemPlace} (h:DataW.trod enc prog W 0 (fun _=>true) true n 3 [v]=some y):∃k:Int,v=.int .i64 k∧bK k:=by
 obtain⟨k,h1,_,h2⟩:=DataW.trod_int underlying3 h;refine⟨k,by simpa using h1,?_⟩
 have:IntKind.min .i64≤k∧k≤IntKind.max .i64:=by simpa [Lit.wf] using h2
 simpa [bK,IntKind.min,IntKind.max,IntKind.signed,IntKind.bits] using this
end
section
variable {H:Type} {enc:TypeId×Value→H}
theorem xP {α:Type} {k:Nat} {f:α→List Value} {ok:α→Prop} (hk:0<k) {W:World} {t e:TypeId} (ht:Tryz.prog.underlying t=some (.slice e)) (hc:Tryz.prog.cellsOf e=k)
 (hel:∀n cs (y:DataW H×List MemPlace),cs.length=k→DataW.trod enc prog W 0 (fun _=>true) true n e cs=some y→∃x,cs=f x∧ok x)
 {n:Nat} {cs:List Value} {x:DataW H×List MemPlace} (h:DataW.trod enc prog W 0 (fun _=>true) true n t cs=some x) :
 ∃(a:Option Addr) (cap:Nat) (l:List α),cs=[.slice a l.length cap]∧RecsAt k f W a l∧(l.length≤cap∧cap≤9223372036854775807)∧∀x∈l,ok x:=by
 rcases open_slice ht h with ⟨h1,_⟩|⟨a,len,cap,m,n',D,Pl,hcs,_,hl,hm,hmm,_,hx⟩
 ·exact⟨none,0,[],h1,.inl rfl,⟨Nat.le_refl _,Nat.zero_le _⟩,by simp⟩
 ·have hmm':m=cap:=hmm
  rw[hc] at hx
  obtain⟨l,hll,hlp⟩:=wI (p:=fun i (b:α)=>(∀j,j<k→W.cell? ((a.add (i*k)).add j)=(f b)[j]?)∧(f b).length=k∧ok b) len (fun i hi=>by
   obtain⟨cs',hc',htr⟩:=hx i (by omega);obtain⟨_,hlen,hat⟩:=World.cells?_some hc';obtain⟨b,rfl,hb⟩:=hel _ _ _ hlen htr
   exact⟨b,hat,hlen,hb⟩)
  have hm2:cap≤9223372036854775807:=hm;refine⟨some a,cap,l,by rw[hcs,hll],?_,⟨by omega,hm2⟩,fun x hx=>?_⟩
  ·by_cases h0:len=0
   ·exact .inl (List.length_eq_zero_iff.1 (by omega))
   ·obtain⟨z1,z2,_⟩:=hlp 0 (by omega)
    have z:=z1 0 hk;rw[List.getElem?_eq_getElem (by omega)] at z
    have ha:a.spot=none:=by
     have:=(oI z).1;unfold Addr.add at this;simpa using this
    obtain⟨b,off,sp⟩:=a;simp only at ha;subst ha;simp only[wZ] at hlp;refine .inr ⟨b,off,rfl,?_,fun i hi=>(hlp i hi).1⟩;have z3:=(hlp 0 (by omega)).1 0 hk;rw[List.getElem?_eq_getElem (by omega)] at z3;exact(oI z3).2
  ·obtain⟨i,hi,rfl⟩:=List.getElem_of_mem hx
   exact(hlp i hi).2.2
theorem zu {W:World} {n:Nat} {v:Value} {y:DataW H×List MemPlace} (h:DataW.trod enc prog W 0 (fun _=>true) true n 9 [v]=some y):∃s:ByteArray,v=.string s∧s.size≤9223372036854775807:=by
 obtain⟨s,h1,_,h2⟩:=DataW.trod_string underlying9 h;exact⟨s,by simpa using h1,h2⟩
end
end Go.Proofs.YtkhemfnlflbniaaGreatDoor
namespace Go.Proofs.YtkhemfnlflbniaaGreatDoor
open Go Go.ChangeShapes Go.WideShapes Go.ChangeAt Go.RowKit Go.Joins Go.Deep Go.Shelf Go.Proofs.Tryz
theorem BG:tY 28:=⟨by kernel_rfl,of_decide_eq_true (by kernel_rfl)⟩
theorem BH:tY 30:=⟨by kernel_rfl,of_decide_eq_true (by kernel_rfl)⟩
theorem BM:tY 40:=⟨by kernel_rfl,of_decide_eq_true (by kernel_rfl)⟩
theorem BK:tY 50:=⟨by kernel_rfl,of_decide_eq_true (by kernel_rfl)⟩
theorem BS:tY 4:=⟨by kernel_rfl,of_decide_eq_true (by kernel_rfl)⟩
section
variable {H:Type} {enc:TypeId×Value→H}
theorem xt {W:World} {n:Nat} {v:Value} {y:DataW H×List MemPlace} (h:DataW.trod enc prog W 0 (fun _=>true) true n 5 [v]=some y):∃k:Int,v=.int .u8 k∧0≤k∧k≤255:=by
 obtain⟨k,h1,_,h2⟩:=DataW.trod_int underlying5 h;refine⟨k,by simpa using h1,?_⟩;simpa [Lit.wf,IntKind.min,IntKind.max,IntKind.signed,IntKind.bits] using h2
theorem yG {W:World} {n:Nat} {u0 u1 u2 u3 u4 u5:Value} {y:DataW H×List MemPlace} (h:DataW.trod enc prog W 0 (fun _=>true) true n 46 [u0,u1,u2,u3,u4,u5]=some y):∃c:Crs,[u0,u1,u2,u3,u4,u5]=c.vals.toList:=by
 have c3:Tryz.prog.cellsOf 3=1:=by kernel_rfl
 have c44:Tryz.prog.cellsOf 44=2:=by kernel_rfl
 obtain⟨ys,n2,_,_,_,hyl,hf⟩:=DataW.trod_struct underlying46 h
 match ys,hyl with
 | [y0,y1,y2,y3,y4],_ =>
   have f0:DataW.trod enc prog W 0 (fun _=>true) true n2 3 (([u0,u1,u2,u3,u4,u5].drop 0).take (Tryz.prog.cellsOf 3))=some y0:=hf 0 _ rfl;have f1:DataW.trod enc prog W 0 (fun _=>true) true n2 3 (([u0,u1,u2,u3,u4,u5].drop 1).take (Tryz.prog.cellsOf 3))=some y1:=hf 1 _ rfl;have f2:DataW.trod enc prog W 0 (fun _=>true) true n2 3 (([u0,u1,u2,u3,u4,u5].drop 2).take (Tryz.prog.cellsOf 3))=some y2:=hf 2 _ rfl;have f3:DataW.trod enc prog W 0 (fun _=>true) true n2 3 (([u0,u1,u2,u3,u4,u5].drop 3).take (Tryz.prog.cellsOf 3))=some y3:=hf 3 _ rfl;have f4:DataW.trod enc prog W 0 (fun _=>true) true n2 44 (([u0,u1,u2,u3,u4,u5].drop 4).take (Tryz.prog.cellsOf 44))=some y4:=hf 4 _ rfl;rw[c3] at f0 f1 f2 f3;rw[c44] at f4;obtain⟨k0,rfl,-⟩:=bA (v:=u0) (y:=y0) f0;obtain⟨k1,rfl,-⟩:=bA (v:=u1) (y:=y1) f1;obtain⟨k2,rfl,-⟩:=bA (v:=u2) (y:=y2) f2;obtain⟨k3,rfl,-⟩:=bA (v:=u3) (y:=y3) f3;have f4':DataW.trod enc prog W 0 (fun _=>true) true n2 44 [u4,u5]=some y4:=f4;obtain⟨zs,n3,_,_,_,hzl,hg⟩:=DataW.trod_struct underlying44 f4'
   match zs,hzl with
   | [z0,z1],_ =>
     have g0:DataW.trod enc prog W 0 (fun _=>true) true n3 3 (([u4,u5].drop 0).take (Tryz.prog.cellsOf 3))=some z0:=hg 0 _ rfl;have g1:DataW.trod enc prog W 0 (fun _=>true) true n3 3 (([u4,u5].drop 1).take (Tryz.prog.cellsOf 3))=some z1:=hg 1 _ rfl;rw[c3] at g0 g1;obtain⟨k4,rfl,-⟩:=bA (v:=u4) (y:=z0) g0;obtain⟨k5,rfl,-⟩:=bA (v:=u5) (y:=z1) g1;exact⟨⟨k0,k1,k2,k3,k4,k5⟩,rfl⟩
theorem zr {W:World} {n:Nat} {u0 u1 u2 u3 u4 u5 u6 u7 u8 u9 u10 u11 u12:Value} {y:DataW H×List MemPlace} (h:DataW.trod enc prog W 0 (fun _=>true) true n 48 [u0,u1,u2,u3,u4,u5,u6,u7,u8,u9,u10,u11,u12]=some y):∃c:Cll,[u0,u1,u2,u3,u4,u5,u6,u7,u8,u9,u10,u11,u12]=c.vals.toList∧0≤c.kind∧c.kind≤255:=by
 have c3:Tryz.prog.cellsOf 3=1:=by kernel_rfl
 have c5:Tryz.prog.cellsOf 5=1:=by kernel_rfl
 have c46:Tryz.prog.cellsOf 46=6:=by kernel_rfl
 obtain⟨ys,n2,_,_,_,hyl,hf⟩:=DataW.trod_struct underlying48 h
 match ys,hyl with
 | [y0,y1,y2,y3,y4,y5,y6,y7],_ =>
   have f0:DataW.trod enc prog W 0 (fun _=>true) true n2 5 (([u0,u1,u2,u3,u4,u5,u6,u7,u8,u9,u10,u11,u12].drop 0).take (Tryz.prog.cellsOf 5))=some y0:=hf 0 _ rfl;have f1:DataW.trod enc prog W 0 (fun _=>true) true n2 3 (([u0,u1,u2,u3,u4,u5,u6,u7,u8,u9,u10,u11,u12].drop 1).take (Tryz.prog.cellsOf 3))=some y1:=hf 1 _ rfl;have f2:DataW.trod enc prog W 0 (fun _=>true) true n2 3 (([u0,u1,u2,u3,u4,u5,u6,u7,u8,u9,u10,u11,u12].drop 2).take (Tryz.prog.cellsOf 3))=some y2:=hf 2 _ rfl;have f3:DataW.trod enc prog W 0 (fun _=>true) true n2 3 (([u0,u1,u2,u3,u4,u5,u6,u7,u8,u9,u10,u11,u12].drop 3).take (Tryz.prog.cellsOf 3))=some y3:=hf 3 _ rfl;have f4:DataW.trod enc prog W 0 (fun _=>true) true n2 3 (([u0,u1,u2,u3,u4,u5,u6,u7,u8,u9,u10,u11,u12].drop 4).take (Tryz.prog.cellsOf 3))=some y4:=hf 4 _ rfl;have f5:DataW.trod enc prog W 0 (fun _=>true) true n2 3 (([u0,u1,u2,u3,u4,u5,u6,u7,u8,u9,u10,u11,u12].drop 5).take (Tryz.prog.cellsOf 3))=some y5:=hf 5 _ rfl;have f6:DataW.trod enc prog W 0 (fun _=>true) true n2 3 (([u0,u1,u2,u3,u4,u5,u6,u7,u8,u9,u10,u11,u12].drop 6).take (Tryz.prog.cellsOf 3))=some y6:=hf 6 _ rfl;have f7:DataW.trod enc prog W 0 (fun _=>true) true n2 46 (([u0,u1,u2,u3,u4,u5,u6,u7,u8,u9,u10,u11,u12].drop 7).take (Tryz.prog.cellsOf 46))=some y7:=hf 7 _ rfl;rw[c5] at f0;rw[c3] at f1 f2 f3 f4 f5 f6;rw[c46] at f7;obtain⟨k0,rfl,o0,o1⟩:=xt (v:=u0) (y:=y0) f0;obtain⟨k1,rfl,-⟩:=bA (v:=u1) (y:=y1) f1;obtain⟨k2,rfl,-⟩:=bA (v:=u2) (y:=y2) f2;obtain⟨k3,rfl,-⟩:=bA (v:=u3) (y:=y3) f3;obtain⟨k4,rfl,-⟩:=bA (v:=u4) (y:=y4) f4;obtain⟨k5,rfl,-⟩:=bA (v:=u5) (y:=y5) f5;obtain⟨k6,rfl,-⟩:=bA (v:=u6) (y:=y6) f6;obtain⟨c,hc⟩:=yG (y:=y7) (show DataW.trod enc prog W 0 (fun _=>true) true n2 46 [u7,u8,u9,u10,u11,u12]=some y7 from f7);refine⟨⟨k0,k1,k2,k3,k4,k5,k6,c⟩,?_,o0,o1⟩;have:c.vals.toList=[.int .i64 c.bearing,.int .i64 c.needle,.int .i64 c.links,.int .i64 c.year,.int .i64 c.wear,.int .i64 c.slack]:=rfl;rw[this] at hc;simp only[List.cons.injEq,and_true] at hc;obtain⟨rfl,rfl,rfl,rfl,rfl,rfl⟩:=hc
   rfl
theorem za {W:World} {n:Nat} {cs:List Value} {y:DataW H×List MemPlace} (hl:cs.length=18) (h:DataW.trod enc prog W 0 (fun _=>true) true n 50 cs=some y):∃r:Rcd,cs=r.cells∧r.deed.size≤9223372036854775807∧0≤r.call.kind∧r.call.kind≤255:=by
 have c3:Tryz.prog.cellsOf 3=1:=by kernel_rfl
 have c9:Tryz.prog.cellsOf 9=1:=by kernel_rfl
 have c48:Tryz.prog.cellsOf 48=13:=by kernel_rfl
 match cs,hl with
 | [u0,u1,u2,u3,u4,v0,v1,v2,v3,v4,v5,v6,v7,v8,v9,v10,v11,v12],_ =>
   obtain⟨ys,n2,_,_,_,hyl,hf⟩:=DataW.trod_struct underlying50 h
   match ys,hyl with
   | [y0,y1,y2,y3,y4,y5],_ =>
     have f0:DataW.trod enc prog W 0 (fun _=>true) true n2 3 (([u0,u1,u2,u3,u4,v0,v1,v2,v3,v4,v5,v6,v7,v8,v9,v10,v11,v12].drop 0).take (Tryz.prog.cellsOf 3))=some y0:=hf 0 _ rfl;have f1:DataW.trod enc prog W 0 (fun _=>true) true n2 3 (([u0,u1,u2,u3,u4,v0,v1,v2,v3,v4,v5,v6,v7,v8,v9,v10,v11,v12].drop 1).take (Tryz.prog.cellsOf 3))=some y1:=hf 1 _ rfl;have f2:DataW.trod enc prog W 0 (fun _=>true) true n2 9 (([u0,u1,u2,u3,u4,v0,v1,v2,v3,v4,v5,v6,v7,v8,v9,v10,v11,v12].drop 2).take (Tryz.prog.cellsOf 9))=some y2:=hf 2 _ rfl;have f3:DataW.trod enc prog W 0 (fun _=>true) true n2 3 (([u0,u1,u2,u3,u4,v0,v1,v2,v3,v4,v5,v6,v7,v8,v9,v10,v11,v12].drop 3).take (Tryz.prog.cellsOf 3))=some y3:=hf 3 _ rfl;have f4:DataW.trod enc prog W 0 (fun _=>true) true n2 3 (([u0,u1,u2,u3,u4,v0,v1,v2,v3,v4,v5,v6,v7,v8,v9,v10,v11,v12].drop 4).take (Tryz.prog.cellsOf 3))=some y4:=hf 4 _ rfl;have f5:DataW.trod enc prog W 0 (fun _=>true) true n2 48 (([u0,u1,u2,u3,u4,v0,v1,v2,v3,v4,v5,v6,v7,v8,v9,v10,v11,v12].drop 5).take (Tryz.prog.cellsOf 48))=some y5:=hf 5 _ rfl;rw[c3] at f0 f1 f3 f4;rw[c9] at f2;rw[c48] at f5;obtain⟨k0,rfl,-⟩:=bA (v:=u0) (y:=y0) f0;obtain⟨k1,rfl,-⟩:=bA (v:=u1) (y:=y1) f1;obtain⟨k2,rfl,o2⟩:=zu (v:=u2) (y:=y2) f2;obtain⟨k3,rfl,-⟩:=bA (v:=u3) (y:=y3) f3;obtain⟨k4,rfl,-⟩:=bA (v:=u4) (y:=y4) f4;obtain⟨c,hc,ho⟩:=zr (y:=y5) (show DataW.trod enc prog W 0 (fun _=>true) true n2 48 [v0,v1,v2,v3,v4,v5,v6,v7,v8,v9,v10,v11,v12]=some y5 from f5);refine⟨⟨k0,k1,k2,k3,k4,c⟩,?_,o2,ho⟩;have:c.vals.toList=[.int .u8 c.kind,.int .i64 c.limit,.int .i64 c.other,.int .i64 c.fr,.int .i64 c.tt,.int .i64 c.sz,.int .i64 c.er,.int .i64 c.crs.bearing,.int .i64 c.crs.needle,.int .i64 c.crs.links,.int .i64 c.crs.year,.int .i64 c.crs.wear,.int .i64 c.crs.slack]:=rfl;rw[this] at hc;simp only[List.cons.injEq,and_true] at hc;obtain⟨rfl,rfl,rfl,rfl,rfl,rfl,rfl,rfl,rfl,rfl,rfl,rfl,rfl⟩:=hc
     rfl
theorem Bn {b0:Nat} {W:World} {v:Value} {d:DataW H} {p:List MemPlace} (hv:Value.okWide prog W .any b0 28 v) (h:DataW.Trod enc prog W 0 (fun _=>true) true 28 v d p) :
 ∃(a:Option Addr) (cap:Nat) (l:List Rcd),v=.slice a l.length cap∧cI W a l∧l.length≤9223372036854775807∧(∀r∈l,r.deed.size≤9223372036854775807)∧(∀r∈l,0≤r.call.kind∧r.call.kind≤255)∧(l.length≤cap∧cap≤9223372036854775807):=by
 obtain⟨n,hn⟩:=h;obtain⟨a,cap,l,h1,h2,h3,h4⟩:=xP (k:=18) (f:=Rcd.cells) (ok:=fun r=>r.deed.size≤9223372036854775807∧0≤r.call.kind∧r.call.kind≤255) (by omega) underlying28 (by kernel_rfl) (fun n cs y hl hh=>za hl hh) hn
 have hc:v=.slice a l.length cap:=by
  have hs:=okWide_slice underlying28 hv;obtain⟨a',n',c',rfl⟩:=hs;simpa [Value.cells] using h1
 exact⟨a,cap,l,hc,h2,by omega,fun r hr=>(h4 r hr).1,fun r hr=>(h4 r hr).2,h3⟩
theorem AP {b0:Nat} {W:World} {v:Value} {d:DataW H} {p:List MemPlace} (hv:Value.okWide prog W .any b0 30 v) (h:DataW.Trod enc prog W 0 (fun _=>true) true 30 v d p):∃i s:Int,v=.agg #[.int .i64 i,.int .i64 s]∧bK i∧bK s:=by
 obtain⟨v0,v1,y0,y1,n,rfl,_,_,h0,h1⟩:=open_agg2 underlying30 (by kernel_rfl) (by kernel_rfl) hv h;obtain⟨i,rfl,hi⟩:=bA h0;obtain⟨s,rfl,hs⟩:=bA h1;exact⟨i,s,rfl,hi,hs⟩
theorem A0 {b0:Nat} {W:World} {v:Value} {d:DataW H} {p:List MemPlace} (hv:Value.okWide prog W .any b0 40 v) (h:DataW.Trod enc prog W 0 (fun _=>true) true 40 v d p):∃i s a c:Int,v=.agg #[.int .i64 i,.int .i64 s,.int .i64 a,.int .i64 c]∧bK i∧bK s∧bK a∧bK c:=by
 obtain⟨v0,v1,v2,v3,y0,y1,y2,y3,n,rfl,_,_,h0,h1,h2,h3⟩:=open_agg4 underlying40 (by kernel_rfl) (by kernel_rfl) hv h;obtain⟨i,rfl,hi⟩:=bA h0;obtain⟨s,rfl,hs⟩:=bA h1;obtain⟨a,rfl,ha⟩:=bA h2;obtain⟨c,rfl,hc⟩:=bA h3;exact⟨i,s,a,c,rfl,hi,hs,ha,hc⟩
end
end Go.Proofs.YtkhemfnlflbniaaGreatDoor
namespace Go.Proofs.YtkhemfnlflbniaaGreatDoor
open Go Go.ChangeShapes Go.WideShapes Go.ChangeAt Go.RowKit Go.Proofs.Tryz
section
variable {H:Type} {enc:TypeId×Value→H}
theorem Bp {b0:Nat} {W:World} {v:Value} {d:DataW H} {p:List MemPlace} (hv:Value.okWide prog W .any b0 5 v) (h:DataW.Trod enc prog W 0 (fun _=>true) true 5 v d p):∃n:Int,v=.int .u8 n∧0≤n∧n≤255:=by
 obtain⟨n,rfl,_,_,hw⟩:=open_int underlying5 hv h;refine⟨n,rfl,?_⟩
 have:IntKind.min .u8≤n∧n≤IntKind.max .u8:=by simpa [Lit.wf] using hw
 simpa [IntKind.min,IntKind.max,IntKind.signed,IntKind.bits] using this
end
end Go.Proofs.YtkhemfnlflbniaaGreatDoor
namespace Go.Proofs.YtkhemfnlflbniaaGreatDoor
open Go Go.RowKit Go.Shelf Go.Proofs.Tryz
theorem A5 {W:World} {B:Nat} {v:Value} {l:List Rcd} (h:W.ownsRow B 50 18 v l.length (l.flatMap Rcd.cells)):∃a c,v=.slice a l.length c∧cI W a l:=by
 obtain⟨-,⟨rfl,z⟩|⟨g,c,cur,rfl,-,hh,-,-,-,htk⟩⟩:=h
 ·have:l=[]:=List.length_eq_zero_iff.1 z
  subst this;exact⟨none,0,rfl,.inl rfl⟩
 ·exact⟨_,c,rfl,n9 hh htk⟩
theorem Bh {w:World} {base:Nat} {v:Value} {l:List Rcd} (hown:w.ownsRow base 50 18 v l.length (l.flatMap Rcd.cells)) (r:Rcd) (hx:l.length≤100000) (hb:base≤w.heap.size) (ty:TypeId) :
 ∃v' w',(Builtin.append_ #[28,28] ty #[v,.slice (some ⟨w.heap.size,0,none⟩) 1 1]).run prog (w.alloc (.cells r.vals 50))=.ok v' w'∧w'.ownsRow base 50 18 v' (l++[r]).length ((l++[r]).flatMap Rcd.cells)∧Below base w w'∧(∀q,q<w.heap.size→v.ownBlock≠some q→w'.heap[q]?=w.heap[q]?):=by
 obtain⟨v',w',h1,h2,h3,h4⟩:=ij (w:=w.alloc (.cells r.vals 50)) (base:=base) (tE:=50) underlying28 yL rfl (by decide) (by decide) (hown.alloc _) (b:=w.heap.size) (news:=r.cells) rfl (heap_alloc_new _ _) (wG r) hx (by simp;omega) ty;refine⟨v',w',h1,?_,((Below.refl _ _).alloc hb _).trans h3,fun q hq hne=>(h4 q (by simp;omega) hne).trans (Below.heap_alloc _ _ _ hq)⟩;rw[List.length_append,List.flatMap_append];simpa using h2
end Go.Proofs.YtkhemfnlflbniaaGreatDoor
