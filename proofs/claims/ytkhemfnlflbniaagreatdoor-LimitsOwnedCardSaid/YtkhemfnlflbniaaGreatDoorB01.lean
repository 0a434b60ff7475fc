/- Merged text 1 of the base: Pure, Base, Wa, Wb, PureB, Wc, Wd, PureC, We, PureD, Wf, Wg, Wg2, Wg3, Wg4. No conditions beyond those stated. -/
import Derived.WalkKit
import Derived.Handy
import Derived.RangeFuncRecord
import Derived.Test.YtkhemfnlflbniaaGreatDoorProg
import Derived.Shelf.Abstract
import Derived.Deep.QuietTactic
import Derived.BigQuiet
import Derived.Laws.CopyOwn
import Derived.WalkSmall
import Derived.RangeFuncNested
import Derived.RangeFuncBound
import Derived.RangeFuncCalls
import Derived.RangeFuncLeaves
import Derived.Shelf.RegionOpen
import Derived.OwnWalkIn
import Derived.TacticsInMore
import Derived.LoopNIn
import Derived.LoopIn
import Derived.Maps.AppendAt
import Derived.Deep.Onto
import Derived.OrdersHeld
set_option maxRecDepth 100000
set_option maxHeartbeats 1000000
namespace Go.Proofs.YtkhemfnlflbniaaGreatDoor
structure Bd where
 src:Int
 dst:Int
 most:Int
 rcd:Int
def bK (n:Int):Prop:=-9223372036854775808≤n∧n≤9223372036854775807
def bm (n a b:Int):Bool:=decide (a≤n)&&decide (n≤b)
def nJ (N:Int) (b:Bd):Bool :=
 !bm b.src 0 (N-1)||!bm b.dst 0 (N-1)||b.src==b.dst||!bm b.most (-1000000) 1000000||!bm b.rcd 0 1000000
def eI (N:Int) (bs:List Bd):Int:=if N<1 then 1 else if bs.any (nJ N) then 1 else 0
def aO (N:Int) (bs:List Bd):Int:=if 128<N∨2000<bs.length then 2 else eI N bs
def bk {α:Type} (p:α→Bool):List α→Int
 | []=>-1
 | x::l=>if p x then 0 else if bk p l<0 then -1 else bk p l+1
theorem dc {α:Type} {p:α→Bool}:∀{l:List α},l.any p=false→bk p l=-1
 | [],_=>rfl
 | x::l,h=>by
   simp only[List.any_cons,Bool.or_eq_false_iff] at h;simp[bk,h.1,dc h.2]
theorem dC {α:Type} {p:α→Bool}:∀{l:List α} {k:Nat} (hk:k<l.length),(l.take k).any p=false→p l[k]=true→bk p l=k
 | [],k,hk,_,_=>by simp at hk
 | x::l,0,hk,_,h=>by simp at h;simp[bk,h]
 | x::l,k+1,hk,h0,h=>by
   simp only[List.take_succ_cons,List.any_cons,Bool.or_eq_false_iff] at h0;have:=dC (l:=l) (k:=k) (by simpa using hk) h0.2 (by simpa using h)
   simp[bk,h0.1,this];omega
theorem ji {α:Type} {p:α→Bool} (l:List α):bk p l<0↔l.any p=false:=by
 constructor
 ·induction l with
  | nil=>intro;rfl
  | cons x l ih =>
    intro h;simp only[bk] at h;simp only[List.any_cons,Bool.or_eq_false_iff]
    by_cases hp:p x=true
    ·simp[hp] at h
    ·simp[hp] at h
     by_cases h2:bk p l<0
     ·exact⟨by simpa using hp,ih h2⟩
     ·simp[h2] at h;omega
 ·intro h;rw[dc h];omega
theorem bR {α:Type} {p:α→Bool} {l:List α} {k:Nat} (hk:k<l.length) (h0:(l.take k).any p=false) (h1:p l[k]=false):(l.take (k+1)).any p=false:=by
 rw[List.take_succ_eq_append_getElem hk,List.any_append,h0];simp[h1]
theorem cD {α:Type} {p:α→Bool} {l:List α} {k:Nat} (hk:l.length≤k) (h0:(l.take k).any p=false):l.any p=false:=by
 rwa [List.take_of_length_le hk] at h0
theorem gX {α:Type} {p:α→Bool} {l:List α} {k:Nat} (hk:k<l.length) (h1:p l[k]=true):l.any p=true :=
 List.any_eq_true.2 ⟨_,List.getElem_mem hk,h1⟩
def ek (N:Int) (l:List Int):Int:=if l.any (fun p=>!bm p 0 (N-1)) then 1 else 0
end Go.Proofs.YtkhemfnlflbniaaGreatDoor
namespace Go.Proofs.YtkhemfnlflbniaaGreatDoor
open Go Go.RowKit
theorem aa {p:Prop} (h:p):Hid p:=h
theorem ag {α:Sort _} (a:α):∃x,a=x:=⟨a,rfl⟩
theorem bB {x y z:World} (h:Below x.heap.size x y) (k:Below y.heap.size y z):Below x.heap.size x z:=h.trans (k.mono h.size)
theorem bU {x y z:World} (h:Hid (Below x.heap.size x y)) (k:Below y.heap.size y z):Hid (Below x.heap.size x z):=bB h k
theorem aD {w:World} {o:Obj}:Below w.heap.size w (w.alloc o):=(Below.refl _ _).alloc (Nat.le_refl _) _
theorem rI {α:Type} (l:List α) (i:Nat) (a:α):l.toArray.setIfInBounds i a=(l.set i a).toArray:=List.setIfInBounds_toArray ..
theorem rH {α:Type} (x:α) (l:List α) (n:Nat) (a:α):(x::l).set (n+1) a=x::l.set n a:=List.set_cons_succ ..
theorem rJ {α:Type} (x:α) (l:List α) (a:α):(x::l).set 0 a=a::l:=List.set_cons_zero ..
theorem bu {w:World} {b i:Nat} {cs:Array Value} {t:TypeId} {fr:Nat×Nat} {v:Value} (h:w.heap[b]?=some (.cells cs t fr)) (hv:cs[i]?=some v):w.cell? ⟨b,i,none⟩=some v:=by
 rw[cell_of_row _ _ _ _ _ _ h];exact hv
def IntsAt (w:World) (a:Option Addr) (xs:List Int):Prop :=
 xs=[]∨∃b off,a=some ⟨b,off,none⟩∧b<w.heap.size∧∀i (h:i<xs.length),w.cell? ⟨b,off+i,none⟩=some (.int .i64 xs[i])
def BoolsAt (w:World) (a:Option Addr) (xs:List Bool):Prop :=
 xs=[]∨∃b off,a=some ⟨b,off,none⟩∧b<w.heap.size∧∀i (h:i<xs.length),w.cell? ⟨b,off+i,none⟩=some (.bool xs[i])
def Bd.cellsAt (x:Bd) (w:World) (b o:Nat):Prop :=
 w.cell? ⟨b,o,none⟩=some (.int .i64 x.src)∧w.cell? ⟨b,o+1,none⟩=some (.int .i64 x.dst)∧w.cell? ⟨b,o+2,none⟩=some (.int .i64 x.most)∧w.cell? ⟨b,o+3,none⟩=some (.int .i64 x.rcd)
def BoundsAt (w:World) (a:Option Addr) (bs:List Bd):Prop :=
 bs=[]∨∃b off,a=some ⟨b,off,none⟩∧b<w.heap.size∧∀i (h:i<bs.length),bs[i].cellsAt w b (off+i*4)
def Bd.val (x:Bd):Value:=.agg #[.int .i64 x.src,.int .i64 x.dst,.int .i64 x.most,.int .i64 x.rcd]
def Bd.cells (x:Bd):List Value:=[.int .i64 x.src,.int .i64 x.dst,.int .i64 x.most,.int .i64 x.rcd]
def bh (bs:List Bd):List Value:=bs.flatMap Bd.cells
def ay (xs:List Int):List Value:=xs.map (Value.int .i64)
def nk (xs:List Bool):List Value:=xs.map Value.bool
theorem cU (bs:List Bd):(bh bs).length=bs.length*4:=by
 induction bs with
 | nil=>rfl
 | cons b bs ih=>simp only[bh,List.flatMap_cons,List.length_append,List.length_cons] at *;rw[ih];simp[Bd.cells];omega
theorem gW:∀(bs:List Bd) (i:Nat) (h:i<bs.length) (j:Nat),j<4→(bh bs)[i*4+j]?=bs[i].cells[j]?
 | [],i,h,_,_=>by simp at h
 | b::bs,0,h,j,hj=>by simp[bh,List.flatMap_cons];rw[List.getElem?_append_left (by simpa [Bd.cells] using hj)]
 | b::bs,i+1,h,j,hj=>by
   have:=gW bs i (by simpa using h) j hj
   simp only[bh,List.flatMap_cons,List.getElem_cons_succ] at *
   rw[List.getElem?_append_right (by simp[Bd.cells];omega),←this]
   simp[Bd.cells];congr 1;omega
theorem dI (a b:List Bd):bh (a++b)=bh a++bh b:=by simp[bh]
theorem ac {B b:Nat} {w w':World} {o:Obj} (hb:Below B w w') (h:b<B) (hw:w.heap[b]?=some o):w'.heap[b]?=some o:=(hb.block b h).trans hw
theorem IntsAt.below {B:Nat} {w w':World} {a:Option Addr} {xs:List Int} (h:IntsAt w a xs) (hb:Below B w w') (hB:w.heap.size≤B):IntsAt w' a xs:=by
 rcases h with h|⟨b,off,e,hl,hc⟩
 ·exact .inl h
 ·exact .inr ⟨b,off,e,Nat.lt_of_lt_of_le hl hb.size,fun i hi=>(hb.cell (by exact Nat.lt_of_lt_of_le hl hB)).trans (hc i hi)⟩
theorem BoolsAt.below {B:Nat} {w w':World} {a:Option Addr} {xs:List Bool} (h:BoolsAt w a xs) (hb:Below B w w') (hB:w.heap.size≤B):BoolsAt w' a xs:=by
 rcases h with h|⟨b,off,e,hl,hc⟩
 ·exact .inl h
 ·exact .inr ⟨b,off,e,Nat.lt_of_lt_of_le hl hb.size,fun i hi=>(hb.cell (by exact Nat.lt_of_lt_of_le hl hB)).trans (hc i hi)⟩
theorem BoundsAt.below {B:Nat} {w w':World} {a:Option Addr} {bs:List Bd} (h:BoundsAt w a bs) (hb:Below B w w') (hB:w.heap.size≤B):BoundsAt w' a bs:=by
 rcases h with h|⟨b,off,e,hl,hc⟩
 ·exact .inl h
 ·refine .inr ⟨b,off,e,Nat.lt_of_lt_of_le hl hb.size,fun i hi=>?_⟩
  have hB':b<B:=Nat.lt_of_lt_of_le hl hB;obtain⟨h0,h1,h2,h3⟩:=hc i hi;exact⟨(hb.cell hB').trans h0,(hb.cell hB').trans h1,(hb.cell hB').trans h2,(hb.cell hB').trans h3⟩
theorem IntsAt.alloc {w:World} {a:Option Addr} {xs:List Int} (h:IntsAt w a xs) (o:Obj):IntsAt (w.alloc o) a xs:=h.below ((Below.refl w.heap.size w).alloc (Nat.le_refl _) o) (Nat.le_refl _)
theorem BoundsAt.alloc {w:World} {a:Option Addr} {xs:List Bd} (h:BoundsAt w a xs) (o:Obj):BoundsAt (w.alloc o) a xs:=h.below ((Below.refl w.heap.size w).alloc (Nat.le_refl _) o) (Nat.le_refl _)
theorem IntsAt.at {w:World} {a:Option Addr} {xs:List Int} (h:IntsAt w a xs) {k:Nat} (hk:k<xs.length):∃b off,a=some ⟨b,off,none⟩∧b<w.heap.size∧w.cell? ⟨b,off+k,none⟩=some (.int .i64 xs[k]):=by
 rcases h with h|⟨b,off,e,hl,hc⟩
 ·subst h;simp at hk
 ·exact⟨b,off,e,hl,hc k hk⟩
theorem BoundsAt.at {w:World} {a:Option Addr} {bs:List Bd} (h:BoundsAt w a bs) {k:Nat} (hk:k<bs.length):∃b off,a=some ⟨b,off,none⟩∧b<w.heap.size∧bs[k].cellsAt w b (off+k*4):=by
 rcases h with h|⟨b,off,e,hl,hc⟩
 ·subst h;simp at hk
 ·exact⟨b,off,e,hl,hc k hk⟩
theorem Bd.cellsAt.below {B:Nat} {w w':World} {x:Bd} {b o:Nat} (h:x.cellsAt w b o) (hb:Below B w w') (hB:b<B):x.cellsAt w' b o :=
 ⟨(hb.cell hB).trans h.1,(hb.cell hB).trans h.2.1,(hb.cell hB).trans h.2.2.1,(hb.cell hB).trans h.2.2.2⟩
theorem iD {P:Program} {kt:TypeId} (hk:P.underlying kt=some .string) (e:Bool) (n:Nat) (s:ByteArray) (w:World):(Instr.checkKey e (n+1) kt (.string s)).run P w=.ok () w:=by
 unfold Instr.checkKey;rw[Sem.run_bind,run_underlying hk]
 rfl
theorem fX {P:Program} {kt:TypeId} (hk:P.underlying kt=some .string) {s:ByteArray} {es:List MapEntry} {r:Option (Nat×Value)} (hf:Instr.findNow .string (.string s) es 0=some r) (w:World):(Instr.findKey kt (.string s) es).run P w=.ok r w:=by
 unfold Instr.findKey;rw[Sem.run_bind,run_underlying hk];simp only[Result.andThen_ok,hf]
 rfl
theorem iK {P:Program} {w:World} {r:Nat} {es:Array MapEntry} {c:Nat} (ho:w.heap[r]?=some (.map es c)):(getObj r).run P w=.ok (.map es c) w:=by
 simp[getObj,Sem.run,ho]
theorem nC {P:Program} {w:World} {r:Nat} {es:Array MapEntry} {c:Nat} (ho:w.heap[r]?=some (.map es c)) (o:Obj):(setObj r o).run P w=.ok () (w.putObj r o):=by
 simp[setObj,Sem.run,ho,World.putObj]
theorem iL {P:Program} {t kt et:TypeId} {r:Nat} {es:Array MapEntry} {clock:Nat} {key:ByteArray} {v:Value} {w:World} (hm:P.underlying t=some (.map kt et)) (hk:P.underlying kt=some .string)
 (ho:w.heap[r]?=some (.map es clock)) (hf:Instr.findNow .string (.string key) es.toList 0=some none) :
 (Instr.mapUpdate t (.map (some r)) (.string key) v).run P w=.ok () (w.putObj r (.map (es.push { key:=.string key,val:=v,born:=clock }) (clock+1))):=by
 unfold Instr.mapUpdate;rw[Sem.run_bind,run_underlying hm];simp only[Result.andThen_ok];rw[Sem.run_bind,iK ho];simp only[Result.andThen_ok];rw[Sem.run_bind,iD hk false 9999];simp only[Result.andThen_ok];rw[Sem.run_bind,fX hk hf];simp only[Result.andThen_ok];rw[nC ho]
theorem gw {P:Program} {t kt et:TypeId} {r i:Nat} {es:Array MapEntry} {clock:Nat} {key:ByteArray} {v:Value} {w:World} (hm:P.underlying t=some (.map kt et)) (hk:P.underlying kt=some .string)
 (ho:w.heap[r]?=some (.map es clock)) (hf:Instr.findNow .string (.string key) es.toList 0=some (some (i,v))) :
 (Instr.lookup t (.map (some r)) (.string key) false).run P w=.ok v w:=by
 unfold Instr.lookup;rw[Sem.run_bind,run_underlying hm];simp only[Result.andThen_ok];simp only[Sem.run_bind,iK ho,Result.andThen_ok,Sem.run_pure];rw[iD hk _ 9999];simp only[Result.andThen_ok];rw[fX hk hf];simp[Result.andThen_ok]
theorem vH {P:Program} {ops:Array Oper} {rest:List Oper} {o:Oper} {a:Act} {Q:Exit→Act→World→Prop} {w w':World} (hg:o.guard=none) (s:Sem Value) (v:Value)
 (hop:execOp a.eval o=(do pure (.value (←s)))) (hrun:s.run P w=.ok v w') (h:wpList P ops Q rest (a.put o.dst v) w'):wpList P ops Q (o::rest) a w:=by
 refine wpList_plain hg fun K hK=>?_
 unfold Oper.wp;rw[hop,Sem.run_bind,hrun];exact hK _ _ h
end Go.Proofs.YtkhemfnlflbniaaGreatDoor
namespace Go.Proofs.YtkhemfnlflbniaaGreatDoor
open Go Go.RowKit Go.Shelf Tryz
theorem jS (n a b:Int) (w:World):Calls prog 232 #[.int .i64 n,.int .i64 a,.int .i64 b] w fun e w'=>e=.returned (.bool (bm n a b))∧w=w':=by
 unfold bm;go_enter func232,ntmps232;go_wp2
 all_goals go_ret
 all_goals refine⟨?_,rfl⟩
 all_goals simp[*]
 omega
def jk (P:Program) (f:FuncId) (caps:Array Value) (w:World) (xs:List Int) (p:Int→Bool):Prop :=
 ∀k (_:k<xs.length) (W:World),Below w.heap.size w W→Calls P f (#[.int .i64 xs[k]]++caps) W fun e W'=>e=.returned (.bool (p xs[k]))∧Below W.heap.size W W'
theorem rP (w:World) (N:Int) (a:Option Addr) (cap:Nat) (bs:List Bd) (hN:bK N) (hl:bs.length≤9223372036854775807) (h:BoundsAt w a bs) :
 Calls prog 230 #[.agg #[.int .i64 N,.slice a bs.length cap]] w fun e w'=>e=.returned (.int .i64 (eI N bs))∧Below w.heap.size w w':=by
 unfold bK at hN
 by_cases h1:N<1
 ·go_enter func230,ntmps230
  go_wp2;go_ret;exact⟨by simp[eI,h1],by go_grown⟩
 ·go_enter func230,ntmps230
  go_wp2
  go_loopw [11] (fun i wr=>∃k:Nat,k≤bs.length∧i=.int .i64 k∧(bs.take k).any (nJ N)=false∧wr.heap[w.heap.size]?=some (.cells #[.int .i64 N,.slice a bs.length cap] 61 (0,0))∧Below w.heap.size w wr)
   (fun i _=>bs.length-(intOf i).toNat)
  case atStart=>exact⟨0,by omega,rfl,rfl,heap_alloc_new _ _,by go_grown⟩
  case round =>
   obtain⟨k,hk,rfl,hany,hs,hb⟩:=hrel;have hc0:wr.cell? ⟨w.heap.size,0,none⟩=some (.int .i64 N):=bu hs rfl;have hsz:w.heap.size<wr.heap.size:=lt_of_block hs
   by_cases hlt:k<bs.length
   ·obtain⟨b,off,rfl,hbl,hcs⟩:=h.at hlt
    obtain⟨c0,c1,c2,c3⟩:=hcs.below hb hbl;have HA:=aa hany;have HS:=aa hs;have HH:=aa h;clear hany hs hcs h;obtain⟨x,hx⟩:=ag (bs[k]);rw[hx] at c0 c1 c2 c3;have HX:=aa hx;clear hx;have HB:nJ N x=(!bm x.src 0 (N-1)||!bm x.dst 0 (N-1)||x.src==x.dst||!bm x.most (-1000000) 1000000||!bm x.rcd 0 1000000):=rfl;have HB:=aa HB;go_wp2_with (go_at_call 232;refine(jS _ _ _ _).mono ?_;rintro e w' ⟨rfl,rfl⟩)
    all_goals first
     | (go_ret
        exact⟨by rw[eI,if_neg (by omega),gX hlt (by rw[HX.out,HB.out];first|(simp[*];done)|(rename_i hq;rcases hq with hq|hq<;>simp[hq]))];rfl,by go_grown⟩)
     | (rename_i hq
        have hq1:=hq.1;have hq2:=hq.2;go_roundw
        case rel=>exact⟨k+1,by omega,by go_num,bR hlt HA.out (by rw[HX.out,HB.out];simp[*]),by rw[Below.heap_alloc _ _ _ hsz];exact HS.out,by go_grown⟩
        case measure=>simp[intOf];omega)
   ·go_wp2
    go_ret;exact⟨by rw[eI,if_neg (by omega),cD (by omega) hany];rfl,hb⟩
theorem fO (w:World) (N:Int) (a:Option Addr) (cap:Nat) (bs:List Bd) (hN:bK N) (hl:bs.length≤9223372036854775807) (h:BoundsAt w a bs) :
 Calls prog 157 #[.agg #[.int .i64 N,.slice a bs.length cap]] w fun e w'=>e=.returned (.int .i64 (aO N bs))∧Below w.heap.size w w':=by
 have hN':=hN;unfold bK at hN';have H:=aa h;clear h
 have B:∀{x y:Int} {w':World},x=y→Below (w.alloc (.cells #[.int .i64 N,.slice a bs.length cap] 61)).heap.size (w.alloc (.cells #[.int .i64 N,.slice a bs.length cap] 61)) w'→Ending.returned (.int .i64 x)=Ending.returned (.int .i64 y)∧Below w.heap.size w w' :=
  fun e hb=>⟨by rw[e],(aD).trans (hb.mono (by simp))⟩
 by_cases h1:128<N
 ·have e:aO N bs=2:=by simp[aO,h1]
  have E:=aa e;clear e;go_enter func157,ntmps157;go_wp2;go_ret;exact B E.out.symm (Below.refl _ _)
 by_cases h2:2000<bs.length
 ·have e:aO N bs=2:=by simp[aO,h2]
  have E:=aa e;clear e;go_enter func157,ntmps157;go_wp2;go_ret;exact B E.out.symm (Below.refl _ _)
 have e:aO N bs=eI N bs:=by simp[aO,h1,h2]
 have E:=aa e;clear e;go_enter func157,ntmps157;go_wp2_with (go_at_call 230;refine(rP _ N a cap bs hN hl (H.out.alloc _)).mono ?_;rintro e w' ⟨rfl,hb⟩);go_ret;exact B E.out.symm hb
theorem kE (w:World) (a:Option Addr) (cap:Nat) (xs:List Int) (f:FuncId) (caps:Array Value) (p:Int→Bool) (hl:xs.length≤9223372036854775807) (h:IntsAt w a xs)
 (hf:jk prog f caps w xs p) (eg:Enters prog f) :
 Calls prog 263 #[.slice a xs.length cap,.func (.func f) #[] caps] w fun e w'=>e=.returned (.int .i64 (bk p xs))∧Below w.heap.size w w':=by
 have H:=aa h;have HF:=aa hf;unfold Enters at eg;clear h hf;go_enter func263,ntmps263;go_wp2
 go_loopw [8] (fun i wr=>∃k:Nat,k≤xs.length∧i=.int .i64 k∧Hid ((xs.take k).any p=false)∧Below w.heap.size w wr)
  (fun i _=>xs.length-(intOf i).toNat)
 case atStart=>exact⟨0,by omega,rfl,aa rfl,by go_grown⟩
 case round =>
  obtain⟨k,hk,rfl,HA,hb⟩:=hrel
  by_cases hlt:k<xs.length
  ·obtain⟨b,off,rfl,hbl,hc⟩:=H.out.at hlt
   rw[←hb.cell hbl] at hc;have hcall:=HF.out k hlt wr hb;obtain⟨x,hx⟩:=ag (xs[k]);rw[hx] at hc hcall;have HX:=aa hx;clear hx
   cases hq:p x with
   | true =>
     rw[hq] at hcall;go_wp2_with (go_at_fn f;refine hcall.mono ?_;rintro e w' ⟨rfl,hb'⟩);go_ret;exact⟨by rw[dC hlt HA.out (by rw[HX.out];exact hq)];rfl,bB hb hb'⟩
   | false =>
     rw[hq] at hcall;go_wp2_with (go_at_fn f;refine hcall.mono ?_;rintro e w' ⟨rfl,hb'⟩);go_roundw
     case rel=>exact⟨k+1,by omega,by go_num,aa (bR hlt HA.out (by rw[HX.out];exact hq)),bB hb hb'⟩
     case measure=>simp[intOf];omega
  ·go_wp2_with fail
   go_ret;exact⟨by rw[dc (cD (by omega) HA.out)];rfl,hb⟩
theorem cF (w:World) (a:Option Addr) (cap:Nat) (xs:List Int) (f:FuncId) (caps:Array Value) (p:Int→Bool) (hl:xs.length≤9223372036854775807) (h:IntsAt w a xs)
 (hf:jk prog f caps w xs p) (eg:Enters prog f) :
 Calls prog 215 #[.slice a xs.length cap,.func (.func f) #[] caps] w fun e w'=>e=.returned (.bool (xs.any p))∧Below w.heap.size w w':=by
 have H:=aa h;have HF:=aa hf;have E:=aa eg;clear h hf eg;go_enter func215,ntmps215;go_wp2_with (go_at_call 263;refine(kE _ a cap xs f caps p hl H.out HF.out E.out).mono ?_;rintro e w' ⟨rfl,hb⟩)
 all_goals go_ret
 refine⟨?_,hb⟩;have:=ji (p:=p) xs
 cases hq:xs.any p with
 | true=>rw[hq] at this;simp at this;simp[this]
 | false=>rw[hq] at this;simp at this;simp[this]
theorem vg (w:World) (q N:Int) (b:Nat) (hN0:1≤N) (hN1:N≤128) (hc:w.cell? ⟨b,0,none⟩=some (.int .i64 N)) :
 Calls prog 266 #[.int .i64 q,.pointer (some ⟨b,0,none⟩)] w fun e w'=>e=.returned (.bool (!bm q 0 (N-1)))∧w=w':=by
 go_enter func266,ntmps266;go_wp2_with (go_at_call 232;refine(jS _ _ _ _).mono ?_;rintro e w' ⟨rfl,rfl⟩);go_ret;exact⟨rfl,rfl⟩
theorem qi (w:World) (N:Int) (sv:Value) (a:Option Addr) (cap:Nat) (l:List Int) (hN0:1≤N) (hN1:N≤128) (hl:l.length≤9223372036854775807) (h:IntsAt w a l) :
 Calls prog 221 #[.agg #[.int .i64 N,sv],.slice a l.length cap] w fun e w'=>e=.returned (.int .i64 (ek N l))∧Below w.heap.size w w':=by
 have H:=aa h;clear h
 have hcN:(w.alloc (.cells #[.int .i64 N,sv] 61)).cell? ⟨w.heap.size,0,none⟩=some (.int .i64 N):=by simp[go_sem]
 have T:jk prog 266 #[.pointer (some ⟨w.heap.size,0,none⟩)] (w.alloc (.cells #[.int .i64 N,sv] 61)) l (fun q=>!bm q 0 (N-1)) :=
  fun k hk W hb=>(vg W _ N w.heap.size hN0 hN1 ((hb.cell (by simp)).trans hcN)).mono fun e W' ⟨he,hw⟩=>⟨he,hw▸Below.refl _ _⟩
 have HT:=aa T;have E:=aa (enters_of func266 (by kernel_rfl) rfl);clear T hcN;go_enter func221,ntmps221;go_wp2_with (go_at_call 215;refine(cF _ a cap l _ _ _ hl (H.out.alloc _) HT.out E.out).mono ?_;rintro e w' ⟨rfl,hb⟩)
 all_goals go_ret
 all_goals refine⟨?_,(aD).trans (hb.mono (by simp))⟩
 ·rename_i hq;simp[ek,hq]
 ·rename_i hq;rw[ek,if_neg];rfl;simpa using hq
theorem vK (v:Int) (w:World):Calls prog 190 #[.int .i64 v] w fun e w'=>e=.returned (.tuple #[.int .i64 (if 1125899906842624≤v then 0 else v),.bool (decide (v<1125899906842624))])∧w=w':=by
 by_cases h:1125899906842624≤v
 ·go_enter func190,ntmps190
  go_wp2;go_ret2;exact⟨by simp[h],rfl⟩
 ·go_enter func190,ntmps190
  go_wp2;go_ret2;exact⟨by simp,rfl⟩
theorem Aw (v:Int) (w:World):Calls prog 152 #[.int .i64 v] w fun e w'=>e=.returned (.bool true)∧w=w':=by
 go_enter func152,ntmps152;go_wp2;go_ret;exact⟨rfl,rfl⟩
def pA (v:Int):Int:=if 1125899906842624≤v then 0 else v
def ud (v:Int):Bool:=decide (v<1125899906842624)
theorem f9 (v:Int) (w:World):Calls prog 190 #[.int .i64 v] w fun e w'=>e=.returned (.tuple #[.int .i64 (pA v),.bool (ud v)])∧w=w':=vK v w
theorem zP (x y:Int) (w:World):Calls prog 267 #[.agg #[.int .i64 x,.int .i64 y]] w fun e w'=>e=.returned (.tuple #[.int .i64 (pA x),.bool (ud x)])∧Below w.heap.size w w':=by
 go_enter func267,ntmps267;go_wp2_with (go_at_call 190;refine(f9 _ _).mono ?_;rintro e w' ⟨rfl,rfl⟩);go_ret2;exact⟨rfl,by go_grown⟩
theorem Az {v:Int} (h:-9223372036854775807≤v):-9223372036854775807≤pA v∧pA v≤1125899906842624:=by unfold pA;split<;>omega
theorem Aq (x y:Int) (w:World) (hy:-9223372036854775807≤y):Calls prog 268 #[.agg #[.int .i64 x,.int .i64 y]] w fun e w'=>e=.returned (.tuple #[.int .i64 (-pA y),.bool (ud y)])∧Below w.heap.size w w':=by
 have hb:=Az hy;go_enter func268,ntmps268;go_wp2_with (go_at_call 190;refine(f9 _ _).mono ?_;rintro e w' ⟨rfl,rfl⟩);go_ret2;exact⟨rfl,by go_grown⟩
def d7:Obj:=.map #[{ key:=.string ⟨#[104,105,103,104]⟩,val:=.func (.func 267) #[] #[],born:=0 },{ key:=.string ⟨#[108,111,119]⟩,val:=.func (.func 268) #[] #[],born:=1 }] 2
theorem pu {α:Type} (xs:Array α) (a b:α):(xs.push a).setIfInBounds xs.size b=xs.push b:=by
 apply Array.ext_getElem?
 intro i;rw[Array.getElem?_setIfInBounds,Array.getElem?_push,Array.getElem?_push]
 by_cases h:i=xs.size
 ·subst h;simp
 ·rw[if_neg (Ne.symm h),if_neg h,if_neg h]
theorem kU (w:World) (o o':Obj):(w.alloc o).putObj w.heap.size o'=w.alloc o':=by
 show({ heap:=(w.heap.push o).setIfInBounds w.heap.size o',tape:=w.tape,drawn:=w.drawn,os:=w.os,output:=w.output }:World)=_
 rw[pu]
 rfl
theorem tZ (w:World):Calls prog 223 #[] w fun e w'=>e=.returned (.map (some w.heap.size))∧w'=w.alloc d7:=by
 have hmm:=@run_makeMap prog
 have h1:(Instr.mapUpdate 242 (.map (some w.heap.size)) (.string ⟨#[104,105,103,104]⟩) (.func (.func 267) #[] #[])).run prog (w.alloc (.map #[] 0))=.ok () (w.alloc (.map #[{ key:=.string ⟨#[104,105,103,104]⟩,val:=.func (.func 267) #[] #[],born:=0 }] 1)):=by
  rw[iL (es:=#[]) (clock:=0) underlying242 underlying9 (heap_alloc_new w _) (by rfl),kU];rfl
 have h2:(Instr.mapUpdate 242 (.map (some w.heap.size)) (.string ⟨#[108,111,119]⟩) (.func (.func 268) #[] #[])).run prog (w.alloc (.map #[{ key:=.string ⟨#[104,105,103,104]⟩,val:=.func (.func 267) #[] #[],born:=0 }] 1))=.ok () (w.alloc d7):=by
  rw[iL (es:=#[{ key:=.string ⟨#[104,105,103,104]⟩,val:=.func (.func 267) #[] #[],born:=0 }]) (clock:=1) underlying242 underlying9 (heap_alloc_new w _) (by rfl),kU];rfl
 go_enter func223,ntmps223;go_wp2;go_ret;exact⟨rfl,rfl⟩
end Go.Proofs.YtkhemfnlflbniaaGreatDoor
namespace Go.Proofs.YtkhemfnlflbniaaGreatDoor
def az (h:List Int) (i:Int):Int:=h.getD i.toNat 0
def bp (s:List Int×Bool) (b:Bd):List Int×Bool :=
 if az s.1 b.src+b.most<az s.1 b.dst then(s.1.set b.dst.toNat (az s.1 b.src+b.most),true) else s
def gM (bs:List Bd) (h:List Int):List Int×Bool:=bs.foldl bp (h,false)
def bV (bs:List Bd):Nat→List Int→Option (List Int)
 | 0,_=>none
 | r+1,h=>if(gM bs h).2 then bV bs r (gM bs h).1 else some (gM bs h).1
def aG (N:Int) (bs:List Bd):Option (List Int):=bV bs (N+1).toNat (List.replicate 128 0)
def Bd.valid (N:Int) (b:Bd):Prop:=0≤b.src∧b.src<N∧0≤b.dst∧b.dst<N∧-1000000≤b.most∧b.most≤1000000
def LowBy (c:Nat) (h:List Int):Prop:=∀i:Nat,-((c:Int)*1000000)≤h.getD i 0∧h.getD i 0≤0
theorem LowBy.mono {c d:Nat} {h:List Int} (H:LowBy c h) (hcd:c≤d):LowBy d h:=fun i=>by have:=H i;omega
theorem mF (n:Nat):LowBy 0 (List.replicate n 0):=fun i=>by simp[List.getD_eq_getElem?_getD,List.getElem?_replicate];split<;>simp
theorem cq (h:List Int) (j i:Nat) (v:Int):(h.set j v).getD i 0=if i=j∧j<h.length then v else h.getD i 0:=by
 simp only[List.getD_eq_getElem?_getD,List.getElem?_set]
 by_cases e:j=i
 ·subst e
  by_cases hl:j<h.length
  ·simp[hl]
  ·simp[hl]
 ·simp[e,Ne.symm e]
theorem jC (s:List Int×Bool) (b:Bd):(bp s b).1.length=s.1.length:=by unfold bp;split<;>simp
theorem fB (bs:List Bd):∀s,(bs.foldl bp s).1.length=s.1.length:=by
 induction bs with
 | nil=>intro s;rfl
 | cons b bs ih=>intro s;rw[List.foldl_cons,ih,jC]
theorem oM {N:Int} {c:Nat} {s:List Int×Bool} {b:Bd} (hb:b.valid N) (H:LowBy c s.1):LowBy (c+1) (bp s b).1:=by
 unfold bp
 split
 ·rename_i hlt
  intro i
  show _≤(s.1.set b.dst.toNat _).getD i 0∧(s.1.set b.dst.toNat _).getD i 0≤0
  rw[cq];have h1:=H b.src.toNat;have h2:=H b.dst.toNat;have h3:=H i;obtain⟨_,_,_,_,hm,_⟩:=hb
  unfold az at *
  split<;>omega
 ·exact H.mono (by omega)
theorem ln {N:Int} (bs:List Bd):∀(c:Nat) (s:List Int×Bool),(∀b∈bs,b.valid N)→LowBy c s.1→LowBy (c+bs.length) (bs.foldl bp s).1:=by
 induction bs with
 | nil=>intro c s _ H;exact H
 | cons b bs ih =>
   intro c s hv H;have:=ih (c+1) (bp s b) (fun x hx=>hv x (List.mem_cons_of_mem _ hx)) (oM (hv b (List.mem_cons_self ..)) H);rw[show c+1+bs.length=c+(b::bs).length by simp only[List.length_cons];omega] at this;exact this
theorem d9 {α β:Type} (f:β→α→β) (l:List α) (s:β) {k:Nat} (hk:k<l.length):(l.take (k+1)).foldl f s=f ((l.take k).foldl f s) l[k]:=by
 rw[List.take_succ_eq_append_getElem hk,List.foldl_append];rfl
theorem rh {N:Int} {bs:List Bd} (hv:∀b∈bs,b.valid N) (r:Nat):∀(c:Nat) (h h':List Int),LowBy c h→bV bs r h=some h'→LowBy (c+r*bs.length) h':=by
 induction r with
 | zero=>intro c h h' _ e;simp[bV] at e
 | succ r ih =>
   intro c h h' H e;have H1:LowBy (c+bs.length) (gM bs h).1:=ln bs c (h,false) hv H;have hm:(r+1)*bs.length=r*bs.length+bs.length:=Nat.succ_mul _ _;simp only[bV] at e
   split at e
   ·have:=ih (c+bs.length) _ h' H1 e
    exact this.mono (by omega)
   ·simp only[Option.some.injEq] at e
    rw[←e];exact H1.mono (by omega)
theorem iI {bs:List Bd}:∀(r:Nat) (h h':List Int),bV bs r h=some h'→h'.length=h.length
 | 0,_,_,e=>by simp[bV] at e
 | r+1,h,h',e=>by
   simp only[bV] at e;have hl:(gM bs h).1.length=h.length:=fB bs (h,false)
   split at e
   ·rw[iI r _ h' e,hl]
   ·simp at e;subst e;exact hl
end Go.Proofs.YtkhemfnlflbniaaGreatDoor
namespace Go.Proofs.YtkhemfnlflbniaaGreatDoor
open Go Go.RowKit Go.Shelf Tryz
def aX (n:Int):List Int:=List.replicate 128 n
theorem aM (n:Int):(aX n).length=128:=List.length_replicate
def bt (l:List Int):Array Value:=(ay l).toArray
def lG (N:Int) (sl:Value) (h:List Int):Array Value:=([.int .i64 N,sl]++ay h).toArray
theorem aZ (l:List Int):(bt l).size=l.length:=by simp[bt,ay]
theorem dE {l:List Int} {i:Nat} (h:i<l.length):(bt l)[i]?=some (.int .i64 (l.getD i 0)):=by simp[bt,ay,h]
theorem i4 (l:List Int) (i:Nat) (v:Int):(bt l).setIfInBounds i (.int .i64 v)=bt (l.set i v):=by
 simp[bt,ay,List.map_set]
theorem gP {N:Int} {sl:Value} {h:List Int} {i:Nat} (hi:i<h.length):(lG N sl h)[2+i]?=some (.int .i64 (h.getD i 0)):=by
 rw[show 2+i=i+2 by omega];simp[lG,ay,hi]
theorem zF (N:Int) (sl:Value) (h:List Int) (i:Nat) (v:Int):(lG N sl h).setIfInBounds (2+i) (.int .i64 v)=lG N sl (h.set i v):=by
 rw[show 2+i=i+2 by omega];simp[lG,ay,List.map_set]
theorem xq:zeroCells189=bt (aX 0):=by kernel_rfl
theorem fP (l:List Int):(bt l).all (·.oneCell')=true:=by
 rw[Array.all_eq_true_iff_forall_mem];intro v hv;simp[bt,ay] at hv;obtain⟨x,_,rfl⟩:=hv;rfl
theorem yy (n:Int) {k:Nat} (hk:k<128):(List.replicate k n++List.replicate (128-k) (0:Int)).set k n=List.replicate (k+1) n++List.replicate (128-(k+1)) 0:=by
 apply List.ext_getElem?
 intro i;rw[List.getElem?_set];simp only[List.length_append,List.length_replicate,List.getElem?_append,List.getElem?_replicate]
 repeat' split
 all_goals first|rfl|omega
theorem ke (n:Int) (w:World):Calls prog 227 #[.int .i64 n] w fun e w'=>e=.returned (.agg (bt (aX n)))∧Below w.heap.size w w':=by
 have i94:Hid ((Tryz.prog.info? 189).map (·.size)=some 128):=aa (by kernel_rfl);go_enter func227,ntmps227;go_wp2
 go_loopw [5] (fun i wr=>∃k:Nat,k≤128∧i=.int .i64 k∧wr.heap[w.heap.size]?=some (.cells (bt (aX 0)) 189 (0,0)) ∧
  wr.heap[w.heap.size+1]?=some (.cells (bt (List.replicate k n++List.replicate (128-k) 0)) 189 (0,0))∧Below w.heap.size w wr)
  (fun i _=>128-(intOf i).toNat)
 case atStart =>
  rw[xq];exact⟨0,by omega,rfl,heap_alloc2_old _ _ _,by rw[heap_alloc2_new];simp[aX],by go_grown⟩
 case round =>
  obtain⟨k,hk,rfl,h1,h2,hb⟩:=hrel;have H1:=aa h1;have H2:=aa h2;clear h1 h2
  by_cases hlt:k<128
  ·have hc:wr.cell? ⟨w.heap.size+1,k,none⟩=some (.int .i64 ((List.replicate k n++List.replicate (128-k) 0).getD k 0)):=by
    rw[cell_of_row _ _ _ _ _ _ H2.out,dE (by simp;omega)]
   have hf:wr.frozen? ⟨w.heap.size+1,k,none⟩=false:=frozen_of_row _ _ _ _ _ H2.out;go_wp2;go_roundw
   case rel=>exact⟨k+1,by omega,by go_num,by rw[heap_setCell_other _ _ _ _ (by simp)];exact H1.out,by
    rw[heap_setCell_same _ _ _ _ _ _ H2.out,i4,yy _ hlt],hb.setCell (by simp) _⟩
   case measure=>simp[intOf];omega
  ·have hk8:k=128:=by omega
   subst hk8
   go_wp2_with (first
    | (refine wpList_load_row rfl 189 _ rfl _ rfl 189 _ _ _ H2.out underlying189 rfl (by rw[aZ];simpa [aM] using i94.out) ?_)
    | (refine wpList_store_row rfl 189 _ _ rfl _ _ rfl rfl 189 _ H1.out (by rw[aZ];simpa [aM] using i94.out) (by rw[aZ,aZ];simp[aM]) (fP _) ?_))
   refine bodyPost_ret (results_cell_row results227 _ _ _ _ _ _ _ rfl (setRow_heap _ _ _ _ _ _ H1.out) underlying189 rfl (by rw[aZ];simpa [aM] using i94.out)) rfl ?_;exact⟨by simp[aX],below_setRow hb (Nat.le_refl _) _⟩
def jY (N:Int) (sl:Value) (r:Option (List Int)) (base:Nat) (e:Ending) (w':World):Prop :=
 match r with
 | some h=>∃b,e=.returned (.tuple #[.pointer (some ⟨b,0,none⟩),.bool true])∧base≤b∧w'.heap[b]?=some (.cells (lG N sl h) 265 (0,0))
 | none=>e=.returned (.tuple #[.pointer none,.bool false])
theorem B9 (N:Int) (sl:Value):(Tryz.zeroCells265.setIfInBounds 0 (Value.int IntKind.i64 N)).setIfInBounds 1 sl=lG N sl (aX 0):=by kernel_rfl
theorem oU (w:World) (N:Int) (a:Option Addr) (cap:Nat) (bs:List Bd) (hN0:1≤N) (hN1:N≤128) (hl:bs.length≤4000) (h:BoundsAt w a bs) (hv:∀b∈bs,b.valid N) :
 Calls prog 222 #[.agg #[.int .i64 N,.slice a bs.length cap]] w fun e w'=>jY N (.slice a bs.length cap) (aG N bs) w.heap.size e w'∧Below w.heap.size w w':=by
 have H:=aa h;have HV:=aa hv;clear h hv;obtain⟨R,hR⟩:∃R:Nat,N=R:=Int.eq_ofNat_of_zero_le (by omega);subst hR;obtain⟨G,hG⟩:=ag (aG R bs);have HG:Hid (bV bs (R+1) (aX 0)=G):=hG;rw[hG];clear hG;go_enter func222,ntmps222;go_wp2_with fail
 go_loopw [15] (fun i wr=>∃(r:Nat) (h:List Int),r≤R+1∧i=.int .i64 r∧Hid (bV bs (R+1-r) h=G)∧h.length=128∧Hid (LowBy (r*bs.length) h) ∧
  wr.heap[w.heap.size]?=some (.cells #[.int .i64 R,.slice a bs.length cap] 61 (0,0))∧wr.heap[w.heap.size+1]?=some (.cells (lG R (.slice a bs.length cap) h) 265 (0,0))∧Below w.heap.size w wr)
  (fun i _=>R+1-(intOf i).toNat)
 case atStart=>exact⟨0,aX 0,by omega,rfl,HG,aM _,aa (by rw[Nat.zero_mul];exact mF 128),heap_alloc2_old _ _ _,by rw[heap_alloc2_new,B9],by go_grown⟩
 case round =>
  obtain⟨r,h,hr,rfl,hgo,hlen,hlow,h1,h2,hb⟩:=hrel;have H1:=aa h1;have H2:=aa h2;have HL:=aa hlen;have c1:wr.cell? ⟨w.heap.size,1,none⟩=some (.slice a bs.length cap):=bu h1 rfl;clear h1 h2 hlen
  by_cases hlt:r<R+1
  ·have hrL:r*bs.length≤128*4000:=Nat.mul_le_mul (by omega) hl
   have hdec:decide ((r:Int)<(R:Int)+1)=true:=by simp;omega
   go_wp2_with fail
   go_loopw [5,20] (fun c i wr=>∃(k:Nat) (h':List Int) (ch:Bool),k≤bs.length∧i=.int .i64 k∧c=.bool ch∧Hid ((bs.take k).foldl bp (h,false)=(h',ch))∧Hid (h'.length=128)∧Hid (LowBy (r*bs.length+k) h') ∧
    Hid (wr.heap[w.heap.size]?=some (.cells #[.int .i64 R,.slice a bs.length cap] 61 (0,0)))∧Hid (wr.heap[w.heap.size+1]?=some (.cells (lG R (.slice a bs.length cap) h') 265 (0,0)))∧Below w.heap.size w wr)
    (fun _ i _=>bs.length-(intOf i).toNat)
   case atStart=>exact⟨0,h,false,by omega,rfl,rfl,aa rfl,HL,hlow,H1,H2,hb⟩
   case round =>
    obtain⟨k,h',ch,hk,rfl,rfl,HF,HL',HW,H1',H2',hb'⟩:=hrel
    by_cases hlt':k<bs.length
    ·obtain⟨b,off,rfl,hbl,hcs⟩:=H.out.at hlt'
     obtain⟨c0,c1,c2,c3⟩:=hcs.below hb' hbl;have hval:=HV.out bs[k] (List.getElem_mem hlt');obtain⟨x,hx⟩:=ag (bs[k]);rw[hx] at c0 c1 c2 c3 hval;have HX:=aa hx;clear hx hcs;obtain⟨xs,xd,xm,xr⟩:=x;obtain⟨v1,v2,v3,v4,v5,v6⟩:=hval;simp only at c0 c1 c2 c3 v1 v2 v3 v4 v5 v6;obtain⟨si,rfl⟩:=Int.eq_ofNat_of_zero_le v1;obtain⟨di,rfl⟩:=Int.eq_ofNat_of_zero_le v3;have hsz:w.heap.size+1<wr.heap.size:=lt_of_block H2'.out
     have hs128:si<h'.length:=by rw[HL'.out];omega
     have hd128:di<h'.length:=by rw[HL'.out];omega
     have cs:wr.cell? ⟨w.heap.size+1,2+si,none⟩=some (.int .i64 (h'.getD si 0)):=by rw[cell_of_row _ _ _ _ _ _ H2'.out,gP hs128]
     have cd:wr.cell? ⟨w.heap.size+1,2+di,none⟩=some (.int .i64 (h'.getD di 0)):=by rw[cell_of_row _ _ _ _ _ _ H2'.out,gP hd128]
     have fd:wr.frozen? ⟨w.heap.size+1,2+di,none⟩=false:=frozen_of_row _ _ _ _ _ H2'.out;have bs1:=HW.out si;have bd1:=HW.out di;obtain⟨vs,hvs⟩:=ag (h'.getD si 0);obtain⟨vd,hvd⟩:=ag (h'.getD di 0);rw[hvs] at cs bs1;rw[hvd] at cd bd1;have HVS:=aa hvs;have HVD:=aa hvd
     have s1:(si:Int)<128:=by omega
     have d1:(di:Int)<128:=by omega
     clear hvs hvd hs128 hd128
     by_cases hlow:vs+xm<vd
     ·go_wp2_with fail
      go_quiet (fail)
      go_wp2_with fail
      go_quiet (fail)
      go_wp2_with fail
      go_region
      all_goals go_wp2_with fail
      go_roundw
      case rel =>
       refine⟨k+1,h'.set di (vs+xm),true,by omega,by go_num,rfl,aa ?_,aa (by rw[List.length_set];exact HL'.out),aa ?_,aa ?_,aa ?_,?_⟩
       ·rw[d9 _ _ _ hlt',HF.out,HX.out]
        unfold bp;rw[if_pos]
        ·simp only[az,Int.toNat_natCast,HVS.out]
        ·simp only[az,Int.toNat_natCast,HVS.out,HVD.out];omega
       ·have hl1:=oM (c:=r*bs.length+k) (s:=(h',ch)) (HV.out _ (List.getElem_mem hlt')) HW.out
        rw[HX.out] at hl1;unfold bp at hl1;rw[if_pos (by simp only[az,Int.toNat_natCast,HVS.out,HVD.out];omega)] at hl1;simp only[az,Int.toNat_natCast,HVS.out] at hl1;exact hl1
       ·rw[heap_setCell_other _ _ _ _ (by simp)]
        exact(Below.heap_alloc _ _ _ (by omega)).trans H1'.out
       ·refine(heap_setCell_same _ _ _ _ _ _ ((Below.heap_alloc _ _ _ hsz).trans H2'.out)).trans ?_
        rw[zF]
       ·go_grown
        exact below_drewN (hb'.alloc (by omega) _) _
      case measure=>simp[intOf];omega
     ·go_wp2_with fail
      go_quiet (fail)
      go_wp2_with fail
      go_quiet (fail)
      go_wp2_with fail;go_roundw
      case rel =>
       refine⟨k+1,h',ch,by omega,by go_num,rfl,aa ?_,HL',aa (HW.out.mono (by omega)),aa ?_,aa ?_,?_⟩
       ·rw[d9 _ _ _ hlt',HF.out,HX.out]
        unfold bp;rw[if_neg]
        simp only[az,Int.toNat_natCast,HVS.out,HVD.out];omega
       ·exact(Below.heap_alloc _ _ _ (by omega)).trans H1'.out
       ·exact(Below.heap_alloc _ _ _ hsz).trans H2'.out
       ·exact below_drewN (hb'.alloc (by omega) _) _
      case measure=>simp[intOf];omega
    ·have hek:(bs.take k).foldl bp (h,false)=gM bs h:=by rw[List.take_of_length_le (by omega)];rfl
     have hF:=HF.out;rw[hek] at hF;have HF2:=aa hF;clear hF hek
     cases ch with
     | true =>
       go_wp2_with fail;go_roundw
       case rel =>
        refine⟨r+1,h',by omega,by go_num,aa ?_,HL'.out,aa (HW.out.mono (by rw[Nat.succ_mul];omega)),H1'.out,H2'.out,hb'⟩
        rw[←hgo.out,show R+1-r=(R+1-(r+1))+1 by omega,bV,HF2.out];rfl
       case measure=>simp[intOf];omega
     | false =>
       have hg:G=some h':=by rw[←hgo.out,show R+1-r=(R+1-(r+1))+1 by omega,bV,HF2.out];rfl
       have HG2:=aa hg;clear hg;go_wp2_with fail;go_ret2;exact⟨by rw[HG2.out];exact⟨_,rfl,by omega,H2'.out⟩,hb'⟩
  ·go_wp2_with fail
   go_ret2
   have e:R+1-r=0:=by omega
   have hg:=hgo.out;rw[e] at hg;exact⟨by rw[←hg];rfl,hb⟩
end Go.Proofs.YtkhemfnlflbniaaGreatDoor
namespace Go.Proofs.YtkhemfnlflbniaaGreatDoor
theorem kB {n a b:Int}:bm n a b=true↔a≤n∧n≤b:=by simp[bm]
theorem vu {N:Int} {b:Bd} (h:nJ N b=false):b.valid N∧b.src≠b.dst∧0≤b.rcd∧b.rcd≤1000000:=by
 simp only[nJ,Bool.or_eq_false_iff,Bool.not_eq_false',kB,beq_eq_false_iff_ne] at h;obtain⟨⟨⟨⟨h1,h2⟩,h3⟩,h4⟩,h5⟩:=h;exact⟨⟨by omega,by omega,by omega,by omega,by omega,by omega⟩,h3,by omega,by omega⟩
theorem pq {N:Int} {bs:List Bd} (h:eI N bs=0):1≤N∧∀b∈bs,b.valid N∧b.src≠b.dst∧0≤b.rcd∧b.rcd≤1000000:=by
 unfold eI at h
 split at h
 ·simp at h
 ·split at h
  ·simp at h
  ·rename_i h1 h2
   refine⟨by omega,fun b hb=>vu ?_⟩;simp only[List.any_eq_true,not_exists,not_and,Bool.not_eq_true] at h2;exact h2 b hb
theorem cR {N:Int} {bs:List Bd} (h:aO N bs=0):1≤N∧N≤128∧bs.length≤2000∧∀b∈bs,b.valid N∧b.src≠b.dst∧0≤b.rcd∧b.rcd≤1000000:=by
 unfold aO at h
 split at h
 ·simp at h
 ·have:=pq h
  exact⟨this.1,by omega,by omega,this.2⟩
theorem ye (N:Int) (l:List Int):ek N l=0∨ek N l=1:=by unfold ek;split;exact .inr rfl;exact .inl rfl
theorem mq {N:Int} {l:List Int} (h:ek N l=0):∀p∈l,0≤p∧p<N:=by
 unfold ek at h
 split at h
 ·simp at h
 ·rename_i h2
  intro p hp
  have h3:bm p 0 (N-1)=true:=by
   cases hq:bm p 0 (N-1) with
   | true=>rfl
   | false=>exact absurd (List.any_eq_true.2 ⟨p,hp,by simp[hq]⟩) h2
  rw[kB] at h3;omega
def bc (N:Int) (bs:List Bd) (l:List Int):Int :=
 if aO N bs≠0 then aO N bs else if ek N l≠0 then ek N l else match aG N bs with|none=>10|some _=>0
theorem iQ {N:Int} {bs:List Bd} {l:List Int} (h:bc N bs l=0):aO N bs=0∧ek N l=0∧∃t,aG N bs=some t:=by
 unfold bc at h
 split at h
 ·rename_i h1;exact absurd h h1
 ·split at h
  ·rename_i _ h1;exact absurd h h1
  ·rename_i h1 h2
   split at h
   ·simp at h
   ·rename_i t ht
    exact⟨by simpa using h1,by simpa using h2,t,ht⟩
end Go.Proofs.YtkhemfnlflbniaaGreatDoor
namespace Go.Proofs.YtkhemfnlflbniaaGreatDoor
open Go Go.RowKit Go.Shelf Tryz
def cB (N:Int) (sl:Value) (bs:List Bd) (l:List Int) (base:Nat) (e:Ending) (w':World):Prop :=
 if bc N bs l=0 then ∃b h,aG N bs=some h∧e=.returned (.tuple #[.pointer (some ⟨b,0,none⟩),.int .i64 0])∧base≤b∧w'.heap[b]?=some (.cells (lG N sl h) 265 (0,0))
 else e=.returned (.tuple #[.pointer none,.int .i64 (bc N bs l)])
theorem lI (w:World) (N:Int) (a:Option Addr) (cap:Nat) (bs:List Bd) (a2:Option Addr) (cap2:Nat) (l:List Int) (hN:bK N) (hl:bs.length≤9223372036854775807) (hl2:l.length≤9223372036854775807) (h:BoundsAt w a bs) (h2:IntsAt w a2 l) :
 Calls prog 143 #[.agg #[.int .i64 N,.slice a bs.length cap],.slice a2 l.length cap2] w fun e w'=>cB N (.slice a bs.length cap) bs l w.heap.size e w'∧Below w.heap.size w w':=by
 have H:=aa h;have H2:=aa h2;have HN:=aa hN;clear h h2 hN;have hB0:Below w.heap.size w (w.alloc (.cells #[.int .i64 N,.slice a bs.length cap] 61)):=aD
 by_cases hc:aO N bs=0
 ·obtain⟨n0,n1,n2,nv⟩:=cR hc
  have HC:=aa hc;have NV:=aa nv;clear hc nv
  by_cases hp:ek N l=0
  ·have HP:=aa hp
   clear hp;obtain⟨t,ht⟩:=ag (aG N bs);have HT:=aa ht;clear ht;go_enter func143,ntmps143;go_wp2_with fail;refine(fO _ N a cap bs HN.out hl (H.out.alloc _)).mono ?_;rw[HC.out];rintro e w1 ⟨rfl,hb1⟩;have b1:=aa (hB0.trans (hb1.mono (by simp)));have cb1:=ac hb1 (by simp) (heap_alloc_new w (.cells #[.int .i64 N,.slice a bs.length cap] 61));have i1:=aa ((H2.out.alloc (.cells #[.int .i64 N,.slice a bs.length cap] 61)).below hb1 (Nat.le_refl _));have j1:=aa ((H.out.alloc (.cells #[.int .i64 N,.slice a bs.length cap] 61)).below hb1 (Nat.le_refl _));have x0:w1.cell? ⟨w.heap.size,0,none⟩=some (.int .i64 N):=bu cb1 rfl;have x1:w1.cell? ⟨w.heap.size,1,none⟩=some (.slice a bs.length cap):=bu cb1 rfl;have CB1:=aa cb1;clear cb1 hb1;go_wp2_with fail;refine(qi _ N _ a2 cap2 l n0 n1 hl2 i1.out).mono ?_;rw[HP.out];rintro e w2 ⟨rfl,hb2⟩;have y0:=(hb2.cell (p:=⟨w.heap.size,0,none⟩) (lt_of_block CB1.out)).trans x0;have y1:=(hb2.cell (p:=⟨w.heap.size,1,none⟩) (lt_of_block CB1.out)).trans x1;have j2:=aa (j1.out.below hb2 (Nat.le_refl _));have b2:=bU b1 hb2;clear hb2 x0 x1;go_wp2_with fail;refine(oU _ N a cap bs n0 n1 (by omega) j2.out (fun b hb=>(NV.out b hb).1)).mono ?_;rw[HT.out];rintro e w3 ⟨hpost,hb3⟩;have b3:=bB b2.out hb3
   cases t with
   | none =>
     simp only[jY] at hpost;subst hpost
     have he:bc N bs l=10:=by simp[bc,HC.out,HP.out,HT.out]
     have HE:=aa he;clear he;go_wp2_with fail;go_ret2;refine⟨?_,b3⟩;unfold cB;rw[if_neg (by rw[HE.out];decide),HE.out]
     rfl
   | some t =>
     obtain⟨b,rfl,hbb,hcell⟩:=hpost
     have he:bc N bs l=0:=by simp[bc,HC.out,HP.out,HT.out]
     have HE:=aa he;have HQ:=aa hcell;clear he hcell;go_wp2_with fail;go_ret2;refine⟨?_,b3⟩;unfold cB;rw[if_pos HE.out];exact⟨b,t,HT.out,rfl,Nat.le_trans b2.out.size hbb,HQ.out⟩
  ·have he:bc N bs l=ek N l:=by simp[bc,HC.out,hp]
   have hp1:ek N l=1:=(ye N l).resolve_left hp;rw[hp1] at he;have HE:=aa he;have HP:=aa hp1;clear he hp hp1;go_enter func143,ntmps143;go_wp2_with fail;refine(fO _ N a cap bs HN.out hl (H.out.alloc _)).mono ?_;rw[HC.out];rintro e w1 ⟨rfl,hb1⟩;have b1:=aa (hB0.trans (hb1.mono (by simp)));have cb1:=ac hb1 (by simp) (heap_alloc_new w (.cells #[.int .i64 N,.slice a bs.length cap] 61));have i1:=aa ((H2.out.alloc (.cells #[.int .i64 N,.slice a bs.length cap] 61)).below hb1 (Nat.le_refl _));have x0:w1.cell? ⟨w.heap.size,0,none⟩=some (.int .i64 N):=bu cb1 rfl;have x1:w1.cell? ⟨w.heap.size,1,none⟩=some (.slice a bs.length cap):=bu cb1 rfl;clear cb1 hb1;go_wp2_with fail;refine(qi _ N _ a2 cap2 l n0 n1 hl2 i1.out).mono ?_;rw[HP.out];rintro e w2 ⟨rfl,hb2⟩;have b2:=bB b1.out hb2;go_wp2_with fail;go_ret2;refine⟨?_,b2⟩;unfold cB;rw[if_neg (by rw[HE.out];decide),HE.out]
   rfl
 ·have he:bc N bs l=aO N bs:=by simp[bc,hc]
  have HE:=aa he;obtain⟨c,hcc⟩:=ag (aO N bs);rw[hcc] at hc
  have hc1:(c==0)=false:=by simpa using hc
  have hc2:(c != 0)=true:=by simpa using hc
  have HC:=aa hcc;clear he hcc;go_enter func143,ntmps143;go_wp2_with fail;refine(fO _ N a cap bs HN.out hl (H.out.alloc _)).mono ?_;rw[HC.out];rintro e w1 ⟨rfl,hb1⟩;have b1:=hB0.trans (hb1.mono (by simp));go_wp2_with fail;go_ret2;refine⟨?_,b1⟩;unfold cB;rw[if_neg (by rw[HE.out,HC.out];exact hc),HE.out,HC.out]
  rfl
end Go.Proofs.YtkhemfnlflbniaaGreatDoor
namespace Go.Proofs.YtkhemfnlflbniaaGreatDoor
def cn:Bd:=⟨0,0,0,0⟩
def bL (bs:List Bd) (ks:List Nat):List Bd:=ks.map fun k=>bs.getD k cn
def aq (t:Nat→Bool) (n:Nat):List Nat:=(List.range n).filter t
theorem ja (t:Nat→Bool) (n:Nat):aq t (n+1)=aq t n++(if t n then[n] else[]):=by
 simp only[aq,List.range_succ,List.filter_append,List.filter_cons,List.filter_nil]
theorem oO (t:Nat→Bool) (n:Nat):(aq t n).length≤n:=by
 have:=List.length_filter_le t (List.range n);simpa [aq] using this
theorem ee {t:Nat→Bool} {n k:Nat}:k∈aq t n↔k<n∧t k=true:=by simp[aq]
def dz (N:Nat) (l:List Bd):List (List Bd):=(List.range N).map fun(p:Nat)=>l.filter fun b=>b.src==(p:Int)
def aC:Int:=1125899906842624
def cE (out:List Int) (done:List Bool) (at_:Int) (p:Nat):Int :=
 if done.getD p false=false∧out.getD p 0<aC∧(at_<0∨out.getD p 0<az out at_) then(p:Int) else at_
def eD (N:Nat) (out:List Int) (done:List Bool):Int:=(List.range N).foldl (cE out done) (-1)
def dv (h:List Int) (at_:Nat) (out:List Int) (b:Bd):List Int :=
 out.set b.dst.toNat (min (az out b.dst) (out.getD at_ 0+b.most+az h b.src-az h b.dst))
def iF (N:Nat) (h:List Int) (near:List (List Bd)):Nat→List Int→List Bool→List Int
 | 0,out,_=>out
 | f+1,out,done =>
   if eD N out done<0 then out
   else iF N h near f ((near.getD (eD N out done).toNat []).foldl (dv h (eD N out done).toNat) out) (done.set (eD N out done).toNat true)
def gG (h:List Int) (a:Int) (out:List Int) (p:Nat):List Int :=
 if out.getD p 0<aC then out.set p (out.getD p 0+(h.getD p 0-az h a)) else out
def wn (N:Nat) (h:List Int) (a:Int) (out:List Int):List Int:=(List.range N).foldl (gG h a) out
def dW (N:Nat) (h:List Int) (l:List Bd) (a:Int):List Int :=
 wn N h a (iF N h (dz N l) (N+1) ((List.replicate 128 aC).set a.toNat 0) (List.replicate 128 false))
def fV (N:Nat) (done:List Bool):Nat:=((List.range N).filter fun p=>done.getD p false==false).length
def yD (h:List Int) (bs:List Bd):Prop:=∀b∈bs,0≤b.most+az h b.src-az h b.dst
def ml (out:List Int):Prop:=out.length=128∧∀p:Nat,0≤out.getD p 0∧out.getD p 0≤aC
theorem tT {N:Nat} (out:List Int) (done:List Bool) {at_:Int} {p:Nat} (hp:p<N) (h:at_<0∨(at_.toNat<N∧done.getD at_.toNat false=false∧out.getD at_.toNat 0<aC)) :
 cE out done at_ p<0∨((cE out done at_ p).toNat<N∧done.getD (cE out done at_ p).toNat false=false∧out.getD (cE out done at_ p).toNat 0<aC):=by
 unfold cE
 split
 ·rename_i h1
  exact .inr ⟨by simpa using hp,by simpa using h1.1,by simpa using h1.2.1⟩
 ·exact h
theorem pV {N:Nat} (out:List Int) (done:List Bool) (l:List Nat) (hl:∀p∈l,p<N):∀at_:Int,(at_<0∨(at_.toNat<N∧done.getD at_.toNat false=false∧out.getD at_.toNat 0<aC)) →
 l.foldl (cE out done) at_<0∨((l.foldl (cE out done) at_).toNat<N∧done.getD (l.foldl (cE out done) at_).toNat false=false∧out.getD (l.foldl (cE out done) at_).toNat 0<aC):=by
 induction l with
 | nil=>intro a h;exact h
 | cons p l ih=>intro a h;exact ih (fun q hq=>hl q (List.mem_cons_of_mem _ hq)) _ (tT out done (hl p (List.mem_cons_self ..)) h)
theorem th (N:Nat) (out:List Int) (done:List Bool):eD N out done<0∨((eD N out done).toNat<N∧done.getD (eD N out done).toNat false=false∧out.getD (eD N out done).toNat 0<aC) :=
 pV out done _ (fun p hp=>by simpa using hp) (-1) (.inl (by omega))
theorem xQ (N:Nat) (done:List Bool):fV N done≤N:=by have:=List.length_filter_le (fun p=>done.getD p false==false) (List.range N);simpa [fV] using this
theorem m7 (N:Nat) (P Q:Nat→Bool) {k:Nat} (hk:k<N) (h1:P k=true) (h2:Q k=false) (h3:∀i,i≠k→Q i=P i):((List.range N).filter Q).length+1=((List.range N).filter P).length:=by
 induction N with
 | zero=>omega
 | succ N ih =>
   rw[List.range_succ,List.filter_append,List.filter_append,List.length_append,List.length_append]
   by_cases e:k=N
   ·subst e
    have:(List.range k).filter Q=(List.range k).filter P:=List.filter_congr (fun i hi=>h3 i (by have:=List.mem_range.1 hi;omega))
    rw[this];simp[h1,h2]
   ·have:=ih (by omega)
    have e2:=h3 N (Ne.symm e)
    simp only[List.filter_cons,List.filter_nil,e2];omega
theorem jT {N:Nat} {done:List Bool} {k:Nat} (hN:N≤done.length) (hk:k<N) (hd:done.getD k false=false):fV N (done.set k true)+1=fV N done:=by
 refine m7 N _ _ hk (by rw[hd];rfl) ?_ ?_
 ·simp[List.getD_eq_getElem?_getD,show k<done.length by omega]
 ·intro i hi
  simp[List.getD_eq_getElem?_getD,Ne.symm hi]
theorem mN {h:List Int} {at_:Nat} {out:List Int} {b:Bd} (ho:ml out) (hp:0≤b.most+az h b.src-az h b.dst):ml (dv h at_ out b):=by
 refine⟨by unfold dv;rw[List.length_set];exact ho.1,fun p=>?_⟩;unfold dv;rw[cq];have h1:=ho.2 b.dst.toNat;have h2:=ho.2 at_;have h3:=ho.2 p
 unfold az at *
 split
 ·omega
 ·exact h3
theorem mv {a:Int}:ml ((List.replicate 128 aC).set a.toNat 0):=by
 refine⟨by simp,fun p=>?_⟩;rw[cq]
 split
 ·unfold aC;omega
 ·simp only[List.getD_eq_getElem?_getD,List.getElem?_replicate]
  split<;>simp[aC]
theorem iw (N:Nat) (l:List Bd):(dz N l).length=N:=by simp[dz]
theorem wQ (N:Nat):dz N []=List.replicate N []:=by
 apply List.ext_getElem?
 intro i;simp only[dz,List.getElem?_map,List.getElem?_replicate,List.filter_nil]
 by_cases h:i<N<;>simp[h]
theorem gY {N:Nat} {l:List Bd} {p:Nat} (hp:p<N):(dz N l).getD p []=l.filter fun b=>b.src==(p:Int):=by simp[dz,hp]
theorem uO {N:Nat} {l:List Bd} {b:Bd} {s:Nat} (hs:b.src=s) (hN:s<N):dz N (l++[b])=(dz N l).set s ((dz N l).getD s []++[b]):=by
 apply List.ext_getElem?
 intro i;rw[List.getElem?_set,gY hN];simp only[dz,List.getElem?_map,List.length_map,List.length_range,List.filter_append]
 by_cases h:i<N
 ·by_cases e:s=i
  ·subst e;simp[h,hs]
  ·have:(b.src==(i:Int))=false:=by rw[hs];simp;omega
   simp[h,e,this]
 ·have:s≠i:=by omega
  simp[h,this]
theorem wN {N:Nat} {l:List Bd} {p:Nat} {b:Bd} (h:b∈(dz N l).getD p []):b∈l∧b.src=p:=by
 by_cases hp:p<N
 ·rw[gY hp] at h
  simpa using h
 ·rw[List.getD_eq_getElem?_getD,List.getElem?_eq_none (by rw[iw];omega)] at h;simp at h
theorem mo (bs:List Bd) (a b:List Nat):bL bs (a++b)=bL bs a++bL bs b:=by simp[bL]
theorem gR {bs:List Bd} {ks:List Nat} (hk:∀k∈ks,k<bs.length) {b:Bd} (h:b∈bL bs ks):b∈bs:=by
 simp only[bL,List.mem_map] at h;obtain⟨k,hk1,rfl⟩:=h;have:=hk k hk1;rw[List.getD_eq_getElem?_getD,List.getElem?_eq_getElem this];exact List.getElem_mem this
end Go.Proofs.YtkhemfnlflbniaaGreatDoor
namespace Go.Proofs.YtkhemfnlflbniaaGreatDoor
open Go Go.RowKit Go.Shelf Tryz
attribute [local go_sem] Oper.semAt_some
structure KeepsB (Fix:Nat→Prop) (W W':World):Prop where
 size:W.heap.size≤W'.heap.size
 same:∀b,Fix b→W'.heap[b]?=W.heap[b]?
theorem KeepsB.refl (Fix:Nat→Prop) (W:World):KeepsB Fix W W:=⟨Nat.le_refl _,fun _ _=>rfl⟩
theorem KeepsB.trans {Fix:Nat→Prop} {A B C:World} (h:KeepsB Fix A B) (k:KeepsB Fix B C):KeepsB Fix A C:=⟨Nat.le_trans h.size k.size,fun b hb=>(k.same b hb).trans (h.same b hb)⟩
theorem KeepsB.below {Fix:Nat→Prop} {W W':World} (h:Below W.heap.size W W') (hf:∀b,Fix b→b<W.heap.size):KeepsB Fix W W':=⟨h.size,fun b hb=>h.block b (hf b hb)⟩
theorem KeepsB.cell {Fix:Nat→Prop} {W W':World} (h:KeepsB Fix W W') {p:Addr} (hp:Fix p.block):W'.cell? p=W.cell? p:=World.cell?_of_block (w:=W) (h.same p.block hp)
theorem dJ {W W':World} (h:Below W.heap.size W W'):W.grownBy W' none:=⟨h.os,h.tape,h.output,h.size,fun k hk _=>h.block k hk⟩
def eJ (P:Program) (f:FuncId) (caps:Array Value) (Fix:Nat→Prop) (w:World) (n:Nat) (t:Nat→Bool):Prop :=
 ∀k (_:k<n) (W:World),KeepsB Fix w W→Calls P f (#[.int .i64 (k:Int)]++caps) W fun e W'=>e=.returned (.bool (t k))∧Below W.heap.size W W'
abbrev eK (bs:List Bd) (t:Nat→Bool):={ k:Nat // k<bs.length∧t k=true }
def zA (bs:List Bd) (t:Nat→Bool) (x:eK bs t):Array Value:=#[.int .i64 (x.1:Int),(bs[x.1]'x.2.1).val]
theorem l9 (w:World) (a:Option Addr) (len cap:Nat) (tf:FuncId) (caps:Array Value) :
 Calls prog 228 #[.slice a len cap,.func (.func tf) #[] caps] w fun e w'=>e=.returned (.func (.func 274) #[] #[.pointer (some ⟨w.heap.size,0,none⟩),.pointer (some ⟨w.heap.size+1,0,none⟩)])∧w'=(w.alloc (.cells #[.slice a len cap] 59)).alloc (.cells #[.func (.func tf) #[] caps] 187):=by
 go_enter func228,ntmps228;go_wp2;go_ret;exact⟨rfl,rfl⟩
theorem xA (n l b1 b2:Nat) (Fix:Nat→Prop) (w W:World) (a:Option Addr) (cap:Nat) (bs:List Bd) (tf:FuncId) (caps:Array Value) (t:Nat→Bool) (hn:1≤n)
 (hl:bs.length≤4000) (hB:BoundsAt w a bs) (hT:eJ prog tf caps Fix w bs.length t) (eg:Enters prog tf) (hFix:∀b,Fix b→b<w.heap.size) (f1:Fix b1) (f2:Fix b2) (fa:∀x,a=some x→0<bs.length→Fix x.block)
 (hc1:w.cell? ⟨b1,0,none⟩=some (.slice a bs.length cap)) (hc2:w.cell? ⟨b2,0,none⟩=some (.func (.func tf) #[] caps)) (hw:KeepsB Fix w W)
 (J Jx:List (eK bs t)→World→Prop) (hJ:AbidesFrom W.heap.size J)
 (hY:∀pre x W1,J pre W1→pre.length<bs.length→YieldAt Fence.wide (n-1) prog l (zA bs t x) W1 fun e W' =>
  (e=.returned (.bool true)∧J (pre++[x]) W'∧KeepsB Fix W1 W')∨(e=.returned (.bool false)∧Jx (pre++[x]) W'))
 (h0:J [] W) :
 CallsIn Fence.wide n prog 274 #[.func (.yield l) #[] #[],.pointer (some ⟨b1,0,none⟩),.pointer (some ⟨b2,0,none⟩)] W fun e W'=>(∃v,e=.returned v) ∧
  ((∃ys,ys.map (·.1)=aq t bs.length∧J ys W')∨(∃pre,(∃k,k≤bs.length∧pre.map (·.1)=aq t k)∧Jx pre W')):=by
 have H:=aa hB;have HT:=aa hT;have HY:=aa hY;have HJ:=aa hJ;have HFix:=aa hFix;have HFa:=aa fa;unfold Enters at eg;have d1:W.cell? ⟨b1,0,none⟩=some (.slice a bs.length cap):=(hw.cell (by exact f1)).trans hc1;clear hB hT hY hJ hFix fa;refine callsIn_of_wp func274 rfl trivial ?_ rfl;simp only[ntmps274,List.size_toArray,List.length_cons,List.length_nil,Nat.reduceAdd,Nat.reduceSub,Array.replicate_succ,Array.replicate_zero,List.push_toArray,List.append_toArray,List.nil_append,List.cons_append];gi_wp2
 gi_loopw [8] (fun i wr=>∃(k:Nat) (pre:List (eK bs t)),k≤bs.length∧i=.int .i64 k∧Hid (pre.map (·.1)=aq t k)∧Hid (J pre wr)∧KeepsB Fix w wr)
  (fun i _=>bs.length-(intOf i).toNat)
 case atStart=>exact⟨0,[],Nat.zero_le _,rfl,aa rfl,aa h0,hw⟩
 case round =>
  obtain⟨k,pre,hk,rfl,hpre,hJs,hkp⟩:=hrel
  by_cases hlt:k<bs.length
  ·obtain⟨b,off,rfl,hbl,hcs⟩:=H.out.at hlt
   have fb:=HFa.out _ rfl (by omega);obtain⟨c0,c1,c2,c3⟩:=hcs;rw[←hkp.cell (by exact fb)] at c0 c1 c2 c3;have d2:wr.cell? ⟨b2,0,none⟩=some (.func (.func tf) #[] caps):=(hkp.cell (by exact f2)).trans hc2;have hb2:b2<wr.heap.size:=Nat.lt_of_lt_of_le (HFix.out b2 f2) hkp.size
   have hlen:pre.length<bs.length:=by
    have:=oO t k;rw[←hpre.out,List.length_map] at this;omega
   have hal:J pre (wr.alloc (.cells #[.int .i64 bs[k].src,.int .i64 bs[k].dst,.int .i64 bs[k].most,.int .i64 bs[k].rcd] 65)):=HJ.out pre wr _ none hJs.out (World.grownBy_alloc _ _ _) (fun r e=>by cases e);have hka:KeepsB Fix w (wr.alloc (.cells #[.int .i64 bs[k].src,.int .i64 bs[k].dst,.int .i64 bs[k].most,.int .i64 bs[k].rcd] 65)):=hkp.trans (KeepsB.below (aD) (fun b hb=>Nat.lt_of_lt_of_le (HFix.out b hb) hkp.size));have hcall:=HT.out k hlt _ hka;have hxc:(wr.alloc (.cells #[.int .i64 bs[k].src,.int .i64 bs[k].dst,.int .i64 bs[k].most,.int .i64 bs[k].rcd] 65)).heap[wr.heap.size]?=some (.cells #[.int .i64 bs[k].src,.int .i64 bs[k].dst,.int .i64 bs[k].most,.int .i64 bs[k].rcd] 65 (0,0)):=heap_alloc_new _ _;have HA:=aa hal;have HK:=aa hka;have HC:=aa hcall;have HXC:=aa hxc;clear hal hka hcall hxc
   cases ht:t k with
   | false =>
     have HTF:=aa ht;clear ht;gi_wp2_with fail;refine⟨trivial,(callsIn_wide.2 HC.out).mono ?_⟩;rw[HTF.out];rintro e W2 ⟨rfl,hb'⟩;have hj2:=aa (HJ.out pre _ W2 none HA.out (dJ hb') (fun r e=>by cases e));have HK2:=aa (HK.out.trans (KeepsB.below hb' (fun b hb=>by have:=HFix.out b hb;have:=HK.out.size;omega)));clear hb';gi_wp2_with fail;refine⟨fun _ h=>(by cases h),?_⟩;gi_wp2_with fail;go_roundw
     case rel=>exact⟨k+1,pre,by omega,by go_num,aa (by rw[hpre.out,ja,HTF.out];simp),hj2,HK2.out⟩
     case measure=>simp[intOf];omega
   | true =>
     have HTF:=aa ht;have hR0:=aa (fun W2 hj=>HY.out pre ⟨k,hlt,ht⟩ W2 hj hlen);gi_wp2_with fail;refine⟨trivial,(callsIn_wide.2 HC.out).mono ?_⟩;rw[HTF.out];rintro e W2 ⟨rfl,hb'⟩;have hj2:J pre W2:=HJ.out pre _ W2 none HA.out (dJ hb') (fun r e=>by cases e);obtain⟨fn,tmps,assign,body,hy,hR⟩:=hR0.out W2 hj2;dsimp only[zA,Bd.val] at hy;have hk2:=HK.out.trans (KeepsB.below hb' (fun b hb=>by have:=HFix.out b hb;have:=HK.out.size;omega));have hxc2:=ac hb' (by simp) HXC.out;have e0:W2.cell? ⟨wr.heap.size,0,none⟩=some (.int .i64 bs[k].src):=bu hxc2 rfl;have e1:W2.cell? ⟨wr.heap.size,1,none⟩=some (.int .i64 bs[k].dst):=bu hxc2 rfl;have e2:W2.cell? ⟨wr.heap.size,2,none⟩=some (.int .i64 bs[k].most):=bu hxc2 rfl;have e3:W2.cell? ⟨wr.heap.size,3,none⟩=some (.int .i64 bs[k].rcd):=bu hxc2 rfl;have HK2:=aa hk2;clear hk2 hxc2 hj2
     have hl2:(pre++[(⟨k,hlt,ht⟩:eK bs t)]).map (·.1)=aq t (k+1):=by rw[List.map_append,hpre.out,ja,if_pos ht];rfl
     have HL2:=aa hl2;clear hl2 hb';gi_wp2_with fail;refine hR.mono ?_;rintro e W3 (⟨rfl,hJ3,hk3⟩|⟨rfl,hJx3⟩)
     ·have HJ3:=aa hJ3
      have HK3:=aa (HK2.out.trans hk3);clear hJ3 hk3;gi_wp2_with fail;go_roundw
      case rel=>exact⟨k+1,_,by omega,by go_num,HL2,HJ3,HK3.out⟩
      case measure=>simp[intOf];omega
     ·have HJ3:=aa hJx3
      clear hJx3;gi_wp2_with fail;refine bodyPost_ret (results_none rfl _ _ _) rfl ?_;exact⟨⟨_,rfl⟩,.inr ⟨_,⟨k+1,by omega,HL2.out⟩,HJ3.out⟩⟩
  ·obtain rfl:k=bs.length:=by omega
   gi_wp2
   go_end0
   exact⟨⟨_,rfl⟩,.inl ⟨_,hpre.out,hJs.out⟩⟩
structure NearAt (W:World) (base g:Nat) (vs:List Value) (rows:List (List Bd)):Prop where
 len:vs.length=rows.length
 blk:W.heap[g]?=some (.cells vs.toArray 59 (0,0))
 own:∀p,p<rows.length→W.ownsRow base 65 4 (vs.getD p .nilFunc) (rows.getD p []).length (bh (rows.getD p []))
 apart:∀p q,p<rows.length→q<rows.length→p≠q→∀b,(vs.getD p .nilFunc).ownBlock=some b→(vs.getD q .nilFunc).ownBlock≠some b
 lt:g<base
theorem NearAt.keeps {W W':World} {base g:Nat} {vs:List Value} {rows:List (List Bd)} {row:Option Nat} (h:NearAt W base g vs rows) (hg:W.grownBy W' row) (hr:∀r,row=some r→∃o:Obj,W.heap[r]?=some o∧o.isCells=false):NearAt W' base g vs rows:=by
 have hne:∀r,row=some r→∀c t f,W.heap[r]?≠some (.cells c t f):=by
  intro r e c t f hc;obtain⟨o,ho,hi⟩:=hr r e;rw[hc] at ho;cases ho;simp[Obj.isCells] at hi
 refine⟨h.len,?_,?_,h.apart,h.lt⟩
 ·have hl:=lt_of_block h.blk
  rw[hg.block g hl (fun e=>hne g e.symm _ _ _ h.blk)];exact h.blk
 ·intro p hp
  have ho:=h.own p hp;refine ho.kept hg ?_
  rcases ho.2 with ⟨e,_⟩|⟨gb,cap,cur,e,_,hh,_⟩
  ·exact .inl (by rw[e];rfl)
  ·right
   rw[e];intro e2;exact hne gb e2.symm _ _ _ hh
theorem NearAt.below {B:Nat} {W W':World} {base g:Nat} {vs:List Value} {rows:List (List Bd)} (h:NearAt W base g vs rows) (hb:Below B W W') (hB:W.heap.size≤B):NearAt W' base g vs rows :=
 h.keeps (row:=none) ⟨hb.os,hb.tape,hb.output,hb.size,fun k hk _=>hb.block k (by omega)⟩ (fun r e=>by cases e)
theorem NearAt.made {W:World} {base g N:Nat} (hb:W.heap[g]?=some (.cells (List.replicate N (.slice none 0 0)).toArray 59 (0,0))) (hl:g<base):NearAt W base g (List.replicate N (.slice none 0 0)) (List.replicate N []):=by
 have e:∀p,p<(List.replicate N ([]:List Bd)).length→(List.replicate N (Value.slice none 0 0)).getD p .nilFunc=.slice none 0 0:=by
  intro p hp;simp at hp;simp[hp]
 refine⟨by simp,hb,?_,?_,hl⟩
 ·intro p hp
  rw[e p hp];simp at hp;simp only[List.getD_eq_getElem?_getD,List.getElem?_replicate,hp,if_true,Option.getD_some];exact World.ownsRow_nil _ _ _ _
 ·intro p q hp hq _ b hb
  rw[e p hp] at hb;simp[Value.ownBlock] at hb
theorem NearAt.appended {W W1:World} {base g s:Nat} {vs:List Value} {rows:List (List Bd)} {b:Bd} {v':Value} (h:NearAt W base g vs rows) (hs:s<rows.length) (_hbase:base≤W.heap.size)
 (hown:W1.ownsRow base 65 4 v' ((rows.getD s []).length+1) (bh (rows.getD s [])++b.cells)) (hg:W.grownBy W1 (vs.getD s .nilFunc).ownBlock) (hblk:v'.ownBlock=(vs.getD s .nilFunc).ownBlock∨v'.ownBlock=some W.heap.size) :
 NearAt (W1.setCell ⟨g,s,none⟩ v') base g (vs.set s v') (rows.set s (rows.getD s []++[b])):=by
 have hgl:=h.lt;have hgW:=lt_of_block h.blk
 have hgne:some g≠(vs.getD s .nilFunc).ownBlock:=by
  intro e;have:=((h.own s hs).lt g e.symm).1;omega
 have hg1:W1.heap[g]?=some (.cells vs.toArray 59 (0,0)):=(hg.block g hgW hgne).trans h.blk;have hvl:vs.length=rows.length:=h.len
 have hget:∀p,p<rows.length→(vs.set s v').getD p .nilFunc=if p=s then v' else vs.getD p .nilFunc:=by
  intro p hp;simp only[List.getD_eq_getElem?_getD,List.getElem?_set]
  by_cases e:s=p
  ·subst e;simp[hvl,hs]
  ·simp[e,Ne.symm e]
 have hgetr:∀p,p<rows.length→(rows.set s (rows.getD s []++[b])).getD p []=if p=s then rows.getD s []++[b] else rows.getD p []:=by
  intro p hp;simp only[List.getD_eq_getElem?_getD,List.getElem?_set]
  by_cases e:s=p
  ·subst e;simp[hs]
  ·simp[e,Ne.symm e]
 refine⟨by simp[hvl],?_,?_,?_,hgl⟩
 ·rw[heap_setCell_same _ _ _ _ _ _ hg1]
  simp
 ·intro p hp
  rw[List.length_set] at hp;rw[hget p hp,hgetr p hp]
  split
  ·rw[List.length_append,dI]
   refine ownsRow_setCell_below ?_ (by exact hgl) v';simpa [bh] using hown
  ·rename_i hne
   have ho:=h.own p hp;refine ownsRow_setCell_below (ho.kept hg ?_) (by exact hgl) v'
   cases hb:(vs.getD p .nilFunc).ownBlock with
   | none=>exact .inl rfl
   | some x =>
     right
     intro e;exact h.apart p s hp hs hne x hb e.symm
 ·intro p q hp hq hpq x hx
  rw[List.length_set] at hp hq;rw[hget p hp] at hx;rw[hget q hq]
  have fresh:∀r,r<rows.length→r≠s→∀y,(vs.getD r .nilFunc).ownBlock=some y→v'.ownBlock≠some y:=by
   intro r hr hrs y hy e
   rcases hblk with e1|e1
   ·rw[e] at e1
    exact h.apart r s hr hs hrs y hy e1.symm
   ·rw[e] at e1
    have:=((h.own r hr).lt y hy).2;cases e1;omega
  split at hx
  ·rename_i e;subst e
   rw[if_neg (Ne.symm hpq)];intro e;exact fresh q hq (Ne.symm hpq) x e hx
  ·rename_i hps
   split
   ·rename_i e;subst e
    exact fresh p hp hps x hx
   ·exact h.apart p q hp hq hpq x hx
attribute [local go_sem] Oper.semAt_some
def Bd.row (x:Bd):Array Value:=#[.int .i64 x.src,.int .i64 x.dst,.int .i64 x.most,.int .i64 x.rcd]
theorem af (w:World) (o:Obj) (i:Nat) (h:i=w.heap.size):(w.alloc o).heap[i]?=some o:=by rw[h];exact heap_alloc_new w o
theorem gK {g:Operand} {p0 p1:Tmp} {assign body:Code} {Q:Exit→Act→World→Prop} {a:Act} {w:World}
 (b1 b2:Nat) (Fix:Nat→Prop) (aB:Option Addr) (cap:Nat) (bs:List Bd) (tf:FuncId) (caps:Array Value) (t:Nat→Bool)
 (hg:a.eval g=.func (.func 274) #[] #[.pointer (some ⟨b1,0,none⟩),.pointer (some ⟨b2,0,none⟩)])
 (hl:bs.length≤4000) (hB:BoundsAt w aB bs) (hT:eJ prog tf caps Fix w bs.length t) (eg:Enters prog tf) (hFix:∀b,Fix b→b<w.heap.size) (f1:Fix b1) (f2:Fix b2) (fa:∀x,aB=some x→0<bs.length→Fix x.block)
 (hc1:w.cell? ⟨b1,0,none⟩=some (.slice aB bs.length cap)) (hc2:w.cell? ⟨b2,0,none⟩=some (.func (.func tf) #[] caps))
 (I:List (eK bs t)→World→Prop) (Ix:Code→List (eK bs t)→World→Prop) (hI:OwnFrom w.heap.size I) (hIx:∀c,OwnFrom w.heap.size (Ix c)) (h0:I [] w) (hIs:∀pre W,I pre W→w.heap.size≤W.heap.size)
 (Fr:Nat→World→Prop) (hFr:∀Bx,OwnFrom w.heap.size (fun(_:Unit) W=>Fr Bx W)) (hFr0:∀pre W o,I pre W→Fr W.heap.size (W.alloc o))
 (upd:Array Value→eK bs t→Nat→Array Value)
 (hassign:∀(l:Nat) (x:eK bs t) (W:World) (K:Act→World→Prop),K { tmps:=upd a.tmps x W.heap.size,defers:=[] } (W.alloc (.cells (bs[x.1]'x.2.1).row 65)) →
  assign.wpIn (Fence.wide.inRound l) 6 prog (Exit.then K (fun _ _ _=>False)) { tmps:=(a.tmps.setIfInBounds p0 (.int .i64 (x.1:Int))).setIfInBounds p1 (bs[x.1]'x.2.1).val,defers:=[] } W)
 (hbody:∀(l:Nat) (pre:List (eK bs t)) (x:eK bs t) (Bx:Nat) (W:World),w.heap.size≤l→(∃r,W.heap[l]?=some (.loop r))→I pre W→w.heap.size≤Bx→W.heap[Bx]?=some (.cells (bs[x.1]'x.2.1).row 65 (0,0))→Fr Bx W→pre.length<bs.length →
  body.wpIn (Fence.wide.inRound l) 6 prog (ownPostG w.heap.size (KeepsB Fix) I Ix (pre++[x]) W) { tmps:=upd a.tmps x Bx,defers:=[] } W)
 (hdone:∀(D:Nat) (xs:List (eK bs t)) (W:World),w.heap.size≤D→xs.map (·.1)=aq t bs.length→I xs W→W.heap[D]?=some (.deferred (some []))→Q .normal { a with defers:={ target:=.collected D,args:=#[] }::a.defers } W)
 (hstop:∀(D:Nat) (c:Code) (pre:List (eK bs t)) (W:World),w.heap.size≤D→(∃k,k≤bs.length∧pre.map (·.1)=aq t k)→Ix c pre W→W.heap[D]?=some (.deferred (some []))→c.wp prog Q { a with defers:={ target:=.collected D,args:=#[] }::a.defers } W) :
 (Code.rangeFunc g #[p0,p1] assign body).wp prog Q a w:=by
 refine(wpIn_wide (n:=8)).1 (wpIn_rangeFunc_ownH (α:=eK bs t) (n:=8) rfl (by omega) hg trivial (enters_of func274 (by kernel_rfl) rfl) (encs:=zA bs t) (Kp:=KeepsB Fix) (S:=fun ys=>ys.map (·.1)=aq t bs.length)
  (Sp:=fun pre=>∃k,k≤bs.length∧pre.map (·.1)=aq t k) (N:=bs.length) (w0:=w) ?_ KeepsB.trans ?_ (Below.refl _ _) (fun x=>rfl) I Ix hI hIx h0
  (fun x a' W=>∃Bx,w.heap.size≤Bx∧W.heap[Bx]?=some (.cells (bs[x.1]'x.2.1).row 65 (0,0))∧Fr Bx W∧a'={ tmps:=upd a.tmps x Bx,defers:=[] }) ?_ ?_ ?_ hdone ?_)
 ·intro l J Jx W hW hJ hJx hY hJ0
  exact xA 7 l b1 b2 Fix w W aB cap bs tf caps t (by omega) hl hB hT eg hFix f1 f2 fa hc1 hc2 (KeepsB.below hW hFix) J Jx hJ hY hJ0
 ·intro W l o o' hle ho hi _
  exact⟨by simp,fun b hb=>World.putObj_heap_other (by have:=hFix b hb;omega)⟩
 ·rintro x a' _ W W' row ⟨Bx,hBx,hc,hfr,e⟩ hg hr
  refine⟨Bx,hBx,?_,hFr Bx () W W' row hfr hg hr,e⟩;rw[hg.block Bx (lt_of_block hc) (fun e2=>?_)]
  ·exact hc
  ·obtain⟨_,o,ho,hi⟩:=hr Bx e2.symm
   rw[hc] at ho;cases ho;simp[Obj.isCells] at hi
 ·intro l pre x W K hIW hK
  rw[show(Array.foldl (fun t (p,v)=>t.setIfInBounds p v) a.tmps (#[p0,p1].zip (zA bs t x)))=(a.tmps.setIfInBounds p0 (.int .i64 (x.1:Int))).setIfInBounds p1 (bs[x.1]'x.2.1).val from by simp[zA]];refine hassign l x W K (hK _ _ ((KeepsOthers.alloc _ _).from _) ?_ (hI.alloc _ hIW) ⟨W.heap.size,?_,heap_alloc_new _ _,hFr0 pre W _ hIW,rfl⟩)
  ·exact KeepsB.below (aD) (fun b hb=>Nat.lt_of_lt_of_le (hFix b hb) (hIs _ _ hIW))
  ·exact hIs _ _ hIW
 ·rintro l pre x a' W hle hlp hIW ⟨Bx,hBx,hc,hfr,rfl⟩ hlen
  exact hbody l pre x Bx W hle hlp hIW hBx hc hfr hlen
 ·intro D c pre W hD hS hx hd
  exact wpIn_wide.2 (hstop D c pre W hD hS hx hd)
theorem nQ {P:Program} {ops:Array Oper} {Q:Exit→Act→World→Prop} {i:Nat} {K:Act→World→Prop} {a:Act} {w:World} (l n:Nat) (hnd:∀(j:Nat) (o:Oper),ops[j]?=some o→∀c,o.op≠.defer c) (hout:¬LetsOut Q)
 (h:wpOp P ops Q i K a w):wpOpIn (Fence.wide.inRound l) n P ops Q i K a w:=by
 unfold wpOp at h;unfold wpOpIn
 cases ho:ops[i]? with
 | none=>simpa [ho] using h
 | some o =>
   simp only[ho] at h
   show if _ then _ else _
   split
   ·rename_i hw
    rw[if_pos hw] at h
    rcases h with h|h
    ·refine⟨fun _ _=>trivial,?_⟩
     unfold Oper.wp at h;rw[show(Fence.wide.inRound l).round=some l from rfl,Oper.semAt_some l _ _ (hnd i o ho)]
     generalize (execOp a.eval o).run P w=r at h ⊢
     cases r with
     | ok x w' =>
       cases x<;>simp only[Oper.upon] at h<;>try exact h
       ·exact⟨fun hd=>by simp[Fence.wide] at hd,(callsIn_wide.2 h).inRound l⟩
       ·exact⟨fun hd=>by simp[Fence.wide] at hd,fun c cs _=>let ⟨v,w'',r,s⟩:=h c cs;⟨v,w'',r,stepsIn_wide.2 s⟩⟩
     | halt x w'=>cases x<;>simp only[Oper.upon] at h<;>exact h
    ·exact absurd h.2 hout
   ·rename_i hw
    rw[if_neg hw] at h;exact⟨fun _ _=>trivial,h⟩
theorem dO {P:Program} {ops:Array Oper} {Q:Exit→Act→World→Prop} {md:Region.Mode} (l n:Nat) (hnd:∀(j:Nat) (o:Oper),ops[j]?=some o→∀c,o.op≠.defer c) (hout:¬LetsOut Q) :
 ∀(fuel:Nat) (listed:Array Bool) (a:Act) (w:World),wpAny P md ops Q fuel listed a w→wpAnyIn (Fence.wide.inRound l) n P md ops Q fuel listed a w
 | 0,_,_,_,h=>h
 | fuel+1,_listed,_a,_w,h=>⟨h.1,fun i hi=>nQ l n hnd hout (wpOp_mono (fun a' w' h'=>dO l n hnd hout fuel _ a' w' h') (h.2 i hi))⟩
def nh (ops:Array Oper):Bool:=ops.all fun o=>match o.op with|.defer _=>false|_=>true
theorem im {ops:Array Oper} (h:nh ops=true) (j:Nat) (o:Oper) (ho:ops[j]?=some o) (c:Call):o.op≠.defer c:=by
 intro e;have hj:=(Array.all_eq_true_iff_forall_mem.1 h) o (Array.mem_of_getElem? ho);simp[e] at hj
theorem ik {P:Program} {ops:Array Oper} {Q:Exit→Act→World→Prop} {S:World→Prop} {id n l:Nat} {a:Act} {w:World} (hm:P.follows .mixedOrders=true) (hnd:nh ops=true) (hout:¬LetsOut Q)
 (h:wpAnyH P .any ops Q S ops.size (Array.replicate ops.size false) a w.drew):(Code.region id ops true).wpIn (Fence.wide.inRound l) n P Q a w :=
 wpIn_region_any hm (dO l n (im hnd) hout _ _ _ _ (wpAny_of_held _ _ _ _ h))
theorem fh {P:Program} {ops:Array Oper} {Q:Exit→Act→World→Prop} {K:Act→World→Prop} {a:Act} {w w':World} {i:Nat} {o:Oper} {v:Value} (hi:ops[i]?=some o) (hw:Region.wanted o (yielded ops a.tmps)=true)
 (hrun:(execOp a.eval o).run P w=.ok (.value v) w') (h:K (a.put o.dst v) w'):wpOp P ops Q i K a w:=by
 unfold wpOp;simp only[hi,hw,if_true,Oper.wp,hrun,Oper.upon];exact .inl h
theorem jl {P:Program} {ops:Array Oper} {Q:Exit→Act→World→Prop} {K:Act→World→Prop} {a:Act} {w w':World} {i:Nat} {o:Oper} (hi:ops[i]?=some o) (hw:Region.wanted o (yielded ops a.tmps)=true)
 (hrun:(execOp a.eval o).run P w=.ok .skip w') (h:K (a.put o.dst undef) w'):wpOp P ops Q i K a w:=by
 unfold wpOp;simp only[hi,hw,if_true,Oper.wp,hrun,Oper.upon];exact .inl h
theorem dF {P:Program} {ops:Array Oper} {Q:Exit→Act→World→Prop} {md:Region.Mode} {S:World→Prop} {fuel:Nat} {listed:Array Bool} {a:Act} {w:World} (i:Nat) (hr:Region.ready md ops listed=[i])
 (h:wpOp P ops Q i (fun a' w'=>S w'∧wpAnyH P md ops Q S fuel (listed.setIfInBounds i true) a' w') a w):wpAnyH P md ops Q S (fuel+1) listed a w :=
 wpAnyH_all hr (by simp) (fun j hj=>by rw[List.mem_singleton] at hj;rw[hj];exact h)
theorem dR {P:Program} {o:Oper} {a:Act} {w w':World} {s x:Operand} {t:TypeId} {vs vx v:Value} (hop:o.op=Op.call { callee:=Callee.builtin Builtin.append,args:=#[s,x],argTypes:=#[t,t] })
 (hs:a.eval s=vs) (hx:a.eval x=vx) (hrun:(Builtin.append_ #[t,t] o.type #[vs,vx]).run P w=.ok v w'):(execOp a.eval o).run P w=.ok (.value v) w':=by
 simp[execOp,hop,resolve,invoke,builtin,hs,hx,hrun,Result.andThen]
def eM (l:List Bool):Array Value:=(nk l).toArray
theorem jK (l:List Bool):(eM l).size=l.length:=by simp[eM,nk]
theorem dN {l:List Bool} {i:Nat} (h:i<l.length):(eM l)[i]?=some (.bool (l.getD i false)):=by simp[eM,nk,h]
theorem jg (l:List Bool) (i:Nat) (v:Bool):(eM l).setIfInBounds i (.bool v)=eM (l.set i v):=by simp[eM,nk,List.map_set]
def iz:List Bool:=List.replicate 128 false
theorem Bt:zeroCells266=eM iz:=by kernel_rfl
theorem NearAt.setDiff {W:World} {base g:Nat} {vs:List Value} {rows:List (List Bd)} (h:NearAt W base g vs rows) {a:Addr} {c:Array Value} {ty:TypeId} {fr:Nat×Nat} (ha:W.heap[a.block]?=some (.cells c ty fr)) (hty:ty≠65) (hg:a.block≠g) (v:Value):NearAt (W.setCell a v) base g vs rows:=by
 refine⟨h.len,?_,fun p hp=>ownsRow_setCell_other (h.own p hp) ?_ v,h.apart,h.lt⟩
 ·rw[heap_setCell_other _ _ _ _ (Ne.symm hg)];exact h.blk
 ·intro e
  rcases(h.own p hp).2 with ⟨e1,_⟩|⟨gb,cp,cur,e1,_,hh,_⟩
  ·rw[e1] at e;simp[Value.ownBlock] at e
  ·rw[e1] at e
   simp only[Value.ownBlock,Option.some.injEq] at e;rw[←e,hh] at ha;cases ha;exact hty rfl
theorem NearAt.sameHeap {W W':World} {base g:Nat} {vs:List Value} {rows:List (List Bd)} (h:NearAt W base g vs rows) (e:W'.heap=W.heap):NearAt W' base g vs rows :=
 ⟨h.len,by rw[e];exact h.blk,fun p hp=>by have:=h.own p hp;unfold World.ownsRow at this ⊢;rw[e];exact this,h.apart,h.lt⟩
structure DSt (w wr:World) (s dB D R:Nat) (vs:List Value) (near:List (List Bd)) (out:List Int) (done:List Bool):Prop where
 o:wr.heap[s]?=some (.cells (bt out) 189 (0,0))
 d:wr.heap[dB]?=some (.cells (eM done) 266 (0,0))
 nr:NearAt wr (s+5) (s+1) vs near
 bx:wr.heap[s+2]?=some (.cells #[.slice (some ⟨s+1,0,none⟩) R R] 263 (0,0))
 rs:wr.heap[w.heap.size]?=some (.cells (bt (aX 0)) 189 (0,0))
 df:wr.heap[D]?=some (.deferred (some []))
 bl:Below w.heap.size w wr
 ne1:w.heap.size<s
 ne2:s+5≤dB
theorem DSt.drewN {w wr:World} {s dB D R:Nat} {vs:List Value} {near:List (List Bd)} {out:List Int} {done:List Bool} (h:DSt w wr s dB D R vs near out done) (n:Nat):DSt w (wr.drewN n) s dB D R vs near out done :=
 ⟨h.o,h.d,h.nr.sameHeap rfl,h.bx,h.rs,h.df,below_drewN h.bl n,h.ne1,h.ne2⟩
theorem DSt.drew {w wr:World} {s dB D R:Nat} {vs:List Value} {near:List (List Bd)} {out:List Int} {done:List Bool} (h:DSt w wr s dB D R vs near out done):DSt w wr.drew s dB D R vs near out done :=
 ⟨h.o,h.d,h.nr.sameHeap rfl,h.bx,h.rs,h.df,h.bl.drew,h.ne1,h.ne2⟩
theorem DSt.alloc {w wr:World} {s dB D R:Nat} {vs:List Value} {near:List (List Bd)} {out:List Int} {done:List Bool} (h:DSt w wr s dB D R vs near out done) (o:Obj):DSt w (wr.alloc o) s dB D R vs near out done:=by
 have hb:Below wr.heap.size wr (wr.alloc o):=aD;exact⟨ac hb (lt_of_block h.o) h.o,ac hb (lt_of_block h.d) h.d,h.nr.below hb (Nat.le_refl _),ac hb (lt_of_block h.bx) h.bx,ac hb (lt_of_block h.rs) h.rs,ac hb (lt_of_block h.df) h.df,bB h.bl hb,h.ne1,h.ne2⟩
theorem DSt.setOut {w wr:World} {s dB D R:Nat} {vs:List Value} {near:List (List Bd)} {out:List Int} {done:List Bool} (h:DSt w wr s dB D R vs near out done) (i:Nat) (v:Int):DSt w (wr.setCell ⟨s,i,none⟩ (.int .i64 v)) s dB D R vs near (out.set i v) done:=by
 have h1:=h.ne1;have h2:=h.ne2
 have hD:D≠s:=by intro e;have:=h.df;rw[e,h.o] at this;cases this
 refine⟨?_,?_,h.nr.setDiff h.o (by decide) (by simp) _,?_,?_,?_,h.bl.setCell (by simp;omega) _,h1,h2⟩
 ·rw[heap_setCell_same _ _ _ _ _ _ h.o,i4]
 ·rw[heap_setCell_other _ _ _ _ (by simp;omega)];exact h.d
 ·rw[heap_setCell_other _ _ _ _ (by simp)];exact h.bx
 ·rw[heap_setCell_other _ _ _ _ (by simp;omega)];exact h.rs
 ·rw[heap_setCell_other _ _ _ _ hD];exact h.df
theorem DSt.setDone {w wr:World} {s dB D R:Nat} {vs:List Value} {near:List (List Bd)} {out:List Int} {done:List Bool} (h:DSt w wr s dB D R vs near out done) (i:Nat):DSt w (wr.setCell ⟨dB,i,none⟩ (.bool true)) s dB D R vs near out (done.set i true):=by
 have h1:=h.ne1;have h2:=h.ne2
 have hD:D≠dB:=by intro e;have:=h.df;rw[e,h.d] at this;cases this
 refine⟨?_,?_,h.nr.setDiff h.d (by decide) (by simp;omega) _,?_,?_,?_,h.bl.setCell (by simp;omega) _,h1,h2⟩
 ·rw[heap_setCell_other _ _ _ _ (by simp;omega)];exact h.o
 ·rw[heap_setCell_same _ _ _ _ _ _ h.d,jg]
 ·rw[heap_setCell_other _ _ _ _ (by simp;omega)];exact h.bx
 ·rw[heap_setCell_other _ _ _ _ (by simp;omega)];exact h.rs
 ·rw[heap_setCell_other _ _ _ _ hD];exact h.df
theorem DSt.outCell {w wr:World} {s dB D R:Nat} {vs:List Value} {near:List (List Bd)} {out:List Int} {done:List Bool} (h:DSt w wr s dB D R vs near out done) {i:Nat} (hi:i<out.length):wr.cell? ⟨s,i,none⟩=some (.int .i64 (out.getD i 0))∧wr.frozen? ⟨s,i,none⟩=false :=
 ⟨by rw[cell_of_row _ _ _ _ _ _ h.o,dE hi],frozen_of_row _ _ _ _ _ h.o⟩
theorem DSt.doneCell {w wr:World} {s dB D R:Nat} {vs:List Value} {near:List (List Bd)} {out:List Int} {done:List Bool} (h:DSt w wr s dB D R vs near out done) {i:Nat} (hi:i<done.length):wr.cell? ⟨dB,i,none⟩=some (.bool (done.getD i false))∧wr.frozen? ⟨dB,i,none⟩=false :=
 ⟨by rw[cell_of_row _ _ _ _ _ _ h.d,dN hi],frozen_of_row _ _ _ _ _ h.d⟩
theorem ve {out:List Int} {done:List Bool} {A:Int} {k:Nat} (h:done.getD k false=true):cE out done A k=A:=by
 unfold cE;rw[if_neg];intro e;rw[h] at e;cases e.1
theorem yj {out:List Int} {done:List Bool} {A:Int} {k:Nat} {v:Int} (hv:out.getD k 0=v) (h:¬v<1125899906842624):cE out done A k=A:=by
 unfold cE;rw[if_neg];rintro⟨_,e,_⟩;rw[hv] at e;exact h e
theorem uB {out:List Int} {done:List Bool} {A:Int} {k:Nat} {v u:Int} (hv:out.getD k 0=v) (hA:¬A<0) (hu:out.getD A.toNat 0=u) (h:¬v<u):cE out done A k=A:=by
 unfold cE;rw[if_neg];rintro⟨_,_,e⟩;unfold az at e;rw[hv,hu] at e;omega
theorem tj {out:List Int} {done:List Bool} {A:Int} {k:Nat} {v:Int} (hd:done.getD k false=false) (hv:out.getD k 0=v) (h:v<1125899906842624) (hA:A<0):cE out done A k=k:=by
 unfold cE;rw[if_pos];exact⟨hd,by rw[hv];exact h,.inl hA⟩
theorem vn {out:List Int} {done:List Bool} {A:Int} {k:Nat} {v u:Int} (hd:done.getD k false=false) (hv:out.getD k 0=v) (h:v<1125899906842624) (hu:out.getD A.toNat 0=u) (hvu:v<u):cE out done A k=k:=by
 unfold cE;rw[if_pos];exact⟨hd,by rw[hv];exact h,.inr (by unfold az;rw[hv,hu];exact hvu)⟩
theorem NearAt.bounds {W:World} {base g:Nat} {vs:List Value} {rows:List (List Bd)} (h:NearAt W base g vs rows) {p:Nat} (hp:p<rows.length):∃o cap,vs.getD p .nilFunc=.slice o (rows.getD p []).length cap:=by
 rcases(h.own p hp).2 with ⟨e,h0⟩|⟨gb,cp,cur,e,_⟩
 ·exact⟨none,0,by rw[e,h0]⟩
 ·exact⟨_,_,e⟩
theorem NearAt.boundsAt {W:World} {base g:Nat} {vs:List Value} {rows:List (List Bd)} (h:NearAt W base g vs rows) {p:Nat} (hp:p<rows.length) {o:Option Addr} {n cap:Nat} (hv:vs.getD p .nilFunc=.slice o n cap):BoundsAt W o (rows.getD p []):=by
 rcases(h.own p hp).2 with ⟨e,h0⟩|⟨gb,cp,cur,e,_,hh,hn,_,hsz,htk⟩
 ·exact .inl (List.length_eq_zero_iff.1 h0)
 ·rw[hv] at e
  cases e;refine .inr ⟨gb,0,rfl,lt_of_block hh,fun i hi=>?_⟩
  have key:∀j v,j<4→((rows.getD p [])[i]).cells[j]?=some v→W.cell? ⟨gb,0+i*4+j,none⟩=some v:=by
   intro j v hj hv;rw[cell_of_row _ _ _ _ _ _ hh,Nat.zero_add]
   have hlt:i*4+j<(rows.getD p []).length*4:=by omega
   have:=gW (rows.getD p []) i hi j hj;rw[←htk,List.getElem?_take_of_lt hlt,hv] at this;simpa using this
  refine⟨?_,?_,?_,?_⟩
  ·exact key 0 _ (by omega) rfl
  ·exact key 1 _ (by omega) rfl
  ·exact key 2 _ (by omega) rfl
  ·exact key 3 _ (by omega) rfl
theorem qA (h:List Int) (a:Int) (out:List Int) (p:Nat):(gG h a out p).length=out.length:=by unfold gG;split<;>simp
theorem mR (h:List Int) (a:Int) (out:List Int) (k:Nat):((List.range k).foldl (gG h a) out).length=out.length:=by
 induction k with
 | zero=>rfl
 | succ k ih=>rw[List.range_succ,List.foldl_append];simp only[List.foldl_cons,List.foldl_nil];rw[qA,ih]
theorem zi {h:List Int} {a:Int} {out:List Int} {p q:Nat} (hq:q≠p):(gG h a out p).getD q 0=out.getD q 0:=by
 unfold gG
 split
 ·rw[cq,if_neg];intro e;exact hq e.1
 ·rfl
theorem Ar (h:List Int) (a:Int) (out:List Int) (k:Nat):∀q,k≤q→((List.range k).foldl (gG h a) out).getD q 0=out.getD q 0:=by
 induction k with
 | zero=>intro q _;rfl
 | succ k ih=>intro q hq;rw[List.range_succ,List.foldl_append];simp only[List.foldl_cons,List.foldl_nil];rw[zi (by omega),ih q (by omega)]
theorem kj {B:Nat} {a w:World} (h:Below B a w) {l:Nat} (hl:B≤l) (o:Obj):Below B a (w.putObj l o) :=
 h.trans ⟨rfl,rfl,rfl,by simp[World.putObj],fun k hk=>World.putObj_heap_other (by omega)⟩
end Go.Proofs.YtkhemfnlflbniaaGreatDoor
