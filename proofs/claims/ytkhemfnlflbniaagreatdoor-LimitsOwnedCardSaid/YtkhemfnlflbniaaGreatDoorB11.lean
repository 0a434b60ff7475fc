/- Merged text 11 of the base: Fn, D6, D7, D8, Nd, Nw, Se, D9, D10. No conditions beyond those stated. -/
import Derived.Test.YtkhemfnlflbniaaGreatDoorB08
import Derived.OrdersIn
import Derived.Test.YtkhemfnlflbniaaGreatDoorB10
import Derived.Test.YtkhemfnlflbniaaGreatDoorB01
import Derived.Test.YtkhemfnlflbniaaGreatDoorB06
import Derived.Test.YtkhemfnlflbniaaGreatDoorB07
import Derived.Test.YtkhemfnlflbniaaGreatDoorB04
import Derived.Test.YtkhemfnlflbniaaGreatDoorB03
import Derived.RangeFuncBox
import Derived.OwnWalkIn
set_option maxRecDepth 100000
set_option maxHeartbeats 8000000
namespace Go.Proofs.YtkhemfnlflbniaaGreatDoor
open Go Go.RowKit Go.Shelf Tryz
section
variable {P:Program} {ops:Array Oper} {Q:Exit→Act→World→Prop} {md:Region.Mode} {S:World→Prop} {last:Nat} {F:Fence} {n:Nat}
def YF (P:Program) (ops:Array Oper) (S:World→Prop) (o:Oper) (v:Value) (a:Act):Prop:=YieldsIf P ops S o v a∧∀w,o.about P w a.eval=none
theorem YF.same {o:Oper} {v:Value} {a a':Act} (hy:YF P ops S o v a) (he:execOp a'.eval o=execOp a.eval o) (hw:Region.wanted o (yielded ops a'.tmps)=Region.wanted o (yielded ops a.tmps)) (hb:∀w,o.about P w a'.eval=o.about P w a.eval):YF P ops S o v a':=by
 refine⟨?_,fun w=>(hb w).trans (hy.2 w)⟩
 rcases hy.1 with ⟨h1,h2⟩|⟨h1,h2⟩
 ·exact .inl ⟨hw.trans h1,fun w hS=>by rw[he];exact h2 w hS⟩
 ·exact .inr ⟨hw.trans h1,h2⟩
theorem YF.go {i:Nat} {o:Oper} {v:Value} {a:Act} (hro:F.round=none) (hi:ops[i]?=some o) (hy:YF P ops S o v a) {K:Act→World→Prop} {w:World} (hS:S w) (h:K (a.put o.dst v) w):wpOpIn F n P ops Q i K a w:=by
 refine wpOpIn_step hi fun K' hK=>?_
 have hab:∀f,o.about P w a.eval=some f→F.fn f:=fun f hf=>by rw[hy.2 w] at hf;cases hf
 rcases hy.1 with ⟨hw,hv⟩|⟨hw,rfl⟩
 ·rw[if_pos hw]
  simp only[Oper.wpIn,hro,Oper.semAt_none,hv w hS,Oper.uponIn];exact⟨hab,hK _ _ h⟩
 ·rw[if_neg (by rw[hw];simp)]
  exact⟨hab,hK _ _ h⟩
theorem YF.other {j:Nat} {oi oj:Oper} {v:Value} (hro:F.round=none) (hj:ops[j]?=some oj) (hap:oi.apart ops oj=true) (hsi:∀cs b,oi.op≠.select cs b) (hsj:∀cs b,oj.op≠.select cs b)
 (hQ:∀c a w,Q (.panic c) (a.put oi.dst v) w→Q (.panic c) a w) {K:Act→World→Prop} {a:Act} {w:World} (hy:YF P ops S oi v a) (h:wpOpIn F n P ops Q j K (a.put oi.dst v) w) :
 wpOpIn F n P ops Q j (fun a' w'=>YF P ops S oi v a'∧K (a'.put oi.dst v) w') a w:=by
 obtain⟨h1,h2,h3⟩:=Oper.apart_spec hap
 have keep:∀(a:Act),YF P ops S oi v a→∀u,YF P ops S oi v (a.put oj.dst u):=fun a hy u=>hy.same (execOp_put oi hsi a oj.dst u h3) (wanted_put oi a oj.dst u h3) (fun w=>about_put oi w a oj.dst u h3)
 unfold wpOpIn at *
 simp only[hj] at *
 rw[wanted_put oj a oi.dst v h1,about_put oj w a oi.dst v h1] at h
 split
 ·rename_i hw
  simp only[hw,if_true] at h
  unfold Oper.wpIn at *
  rw[about_put oj w a oi.dst v h1,hro,Oper.semAt_none,execOp_put oj hsj a oi.dst v h1] at h;rw[hro,Oper.semAt_none];obtain⟨ha,h⟩:=h;refine⟨ha,?_⟩;clear ha
  generalize (execOp a.eval oj).run P w=r at *
  cases r with
  | ok x w' =>
    cases x<;>simp only[Oper.uponIn] at h ⊢
    case value u=>exact⟨keep a hy u,by rw[←Act.put_comm a v u h2];exact h⟩
    case skip=>exact⟨keep a hy _,by rw[←Act.put_comm a v undef h2];exact h⟩
    case defer d =>
     refine⟨keep { a with defers:=d::a.defers } (hy.same rfl rfl (fun _=>rfl)) _,?_⟩;rw[←Act.put_comm _ v undef h2,←Act.put_defers];exact h
    case enter f args =>
     refine⟨h.1,CallsIn.mono h.2 fun e w'' he=>?_⟩
     cases e with
     | returned u=>exact⟨keep a hy u,by rw[←Act.put_comm a v u h2];exact he⟩
     | panicked c=>exact hQ _ _ _ he
     | outgrown=>exact he
    case row row args=>exact⟨h.1,RowsIn.mono h.2 fun u w'' he=>⟨keep a hy u,by rw[←Act.put_comm a v u h2];exact he⟩⟩
    case round l f tmps assign body =>
     refine⟨h.1,RoundIn.mono h.2 fun e w'' he=>?_⟩
     cases e with
     | returned u=>exact⟨keep a hy u,by rw[←Act.put_comm a v u h2];exact he⟩
     | panicked c=>exact hQ _ _ _ he
     | outgrown=>exact he
  | halt x w' =>
    cases x<;>simp only[Oper.uponIn] at h ⊢
    case panic u=>exact hQ _ _ _ h
 ·rename_i hw
  simp only[hw] at h;exact⟨h.1,keep a hy _,by rw[←Act.put_comm a v undef h2];exact h.2⟩
def eL (F:Fence) (n:Nat) (P:Program) (md:Region.Mode) (ops:Array Oper) (Q:Exit→Act→World→Prop) (S:World→Prop) (last:Nat):Nat→Array Bool→Act→World→Prop
 | 0,listed,a,w=>Region.ready md ops listed=[]∧Q .normal a w
 | fuel+1,listed,a,w=>(Region.ready md ops listed=[]→Q .normal a w) ∧
   ∀i∈Region.ready md ops listed,wpOpIn F n P ops Q i (fun a' w'=>(i=last∨S w')∧eL F n P md ops Q S last fuel (listed.setIfInBounds i true) a' w') a w
theorem pW:∀(fuel:Nat) (listed:Array Bool) (a:Act) (w:World),eL F n P md ops Q S last fuel listed a w→wpAnyIn F n P md ops Q fuel listed a w
 | 0,_,_,_,h=>h
 | fuel+1,_,_,_,h=>⟨h.1,fun i hi=>wpOpIn_mono (fun a' w' h'=>pW fuel _ a' w' h'.2) (h.2 i hi)⟩
theorem qF {i:Nat} {oi:Oper} {v:Value} (hro:F.round=none) (hl:(cQ md ops last=true∧i≠last)∨ops.size≤last) (hi:ops[i]?=some oi) (hsel:∀(j:Nat) (o:Oper) cs b,ops[j]?=some o→o.op≠.select cs b)
 (hQ:∀c a w,Q (.panic c) (a.put oi.dst v) w→Q (.panic c) a w) :
 ∀(fuel:Nat) (listed:Array Bool) (a:Act) (w:World),
  (∀j oj,ops[j]?=some oj→j≠i→listed.getD j true=false→(∀e∈oj.after,Region.binds md e=true→e.on≠i)→oi.apart ops oj=true) →
  i∈Region.ready md ops listed→YF P ops S oi v a→S w →
  eL F n P md ops Q S last fuel (listed.setIfInBounds i true) (a.put oi.dst v) w→eL F n P md ops Q S last (fuel+1) listed a w:=by
 have his:i<ops.size:=(Array.getElem?_eq_some_iff.1 hi).1;intro fuel
 induction fuel with
 | zero =>
   intro listed a w _ hr hy hS H;refine⟨fun h=>(by rw[h] at hr;cases hr),fun j hj=>?_⟩
   by_cases hji:j=i
   ·subst hji;exact hy.go hro hi hS ⟨.inr hS,H⟩
   ·have:=ready_mono hj hji
    rw[H.1] at this;cases this
 | succ fuel ih =>
   intro listed a w hfree hr hy hS H;refine⟨fun h=>(by rw[h] at hr;cases hr),fun j hj=>?_⟩
   by_cases hji:j=i
   ·subst hji;exact hy.go hro hi hS ⟨.inr hS,H⟩
   ·have hun:∀k:Nat,listed.getD k false=true→k=i→False:=fun k h1 e=>by
     subst e;have h0:=(mem_ready.1 hr).1
     rcases Nat.lt_or_ge k listed.size with h'|h'
     ·simp[h'] at h0 h1;rw[h0] at h1;cases h1
     ·simp[Array.getElem?_eq_none h'] at h1
    have hjl:j≠last:=by
     intro e;subst e
     rcases hl with hl|hl
     ·exact hun i (nU hl.1 hj hl.2 his) rfl
     ·obtain⟨_,o,ho,_⟩:=mem_ready.1 hj
      have:=(Array.getElem?_eq_some_iff.1 ho).1;omega
    have h1:=H.2 j (ready_mono hj hji);obtain⟨hjun,oj,hoj,hall⟩:=mem_ready.1 hj;have h2:=hy.other hro hoj (hfree j oj hoj hji hjun (fun e he hb heq=>hun e.on (hall e he hb) heq)) (fun cs b=>hsel i oi cs b hi) (fun cs b=>hsel j oj cs b hoj) hQ h1
    have hfree':∀k ok,ops[k]?=some ok→k≠i→(listed.setIfInBounds j true).getD k true=false→(∀e∈ok.after,Region.binds md e=true→e.on≠i)→oi.apart ops ok=true:=fun k ok hk hki hu hno=>by
     refine hfree k ok hk hki ?_ hno
     by_cases hjk:j=k
     ·subst hjk;exact hjun
     ·rw[getD_set_ne true hjk] at hu;exact hu
    refine wpOpIn_mono (fun a' w' h3=>?_) h2;have hSw:S w':=h3.2.1.resolve_left hjl;refine⟨.inr hSw,ih (listed.setIfInBounds j true) a' w' hfree' (ready_mono hr (Ne.symm hji)) h3.1 hSw ?_⟩;rw[Array.setIfInBounds_comm _ _ hji];exact h3.2.2
theorem tI {oi:Oper} {fuel:Nat} {listed:Array Bool} {a:Act} {w:World} (i d:Nat) (v:Value) (hi:ops[i]?=some oi) (hB:((cQ md ops last&&decide (i≠last)||decide (ops.size≤last))&&Ak md ops listed i d)=true) (hro:F.round=none)
 (hw:Region.wanted oi (yielded ops a.tmps)=true) (hab:∀w,oi.about P w a.eval=none) (hQ:∀c a w,Q (.panic c) (a.put oi.dst v) w→Q (.panic c) a w) (hy:∀V,S V→(execOp a.eval oi).run P V=.ok (.value v) V) (hS:S w)
 (h:eL F n P md ops Q S last fuel (listed.setIfInBounds i true) { a with tmps:=a.tmps.setIfInBounds d v } w):eL F n P md ops Q S last (fuel+1) listed a w:=by
 simp only[Bool.and_eq_true,Bool.or_eq_true,decide_eq_true_eq] at hB;obtain⟨h1,h2,h3,h4⟩:=ou hi hB.2;exact qF hro hB.1 hi (Region.noSelect_spec h2) hQ fuel listed a w (Region.free_spec hi h3) (by simpa using h4) ⟨.inl ⟨hw,hy⟩,hab⟩ hS (by rw[h1];exact h)
theorem sI {oi:Oper} {fuel:Nat} {listed:Array Bool} {a:Act} {w:World} (i:Nat) (hi:ops[i]?=some oi) (hr:Region.ready md ops listed=[i])
 (h:∀K:Act→World→Prop,Hid (∀a w,(i=last∨S w)∧eL F n P md ops Q S last fuel (listed.setIfInBounds i true) a w→K a w)→if Region.wanted oi (yielded ops a.tmps)=true then Oper.wpIn F n P oi a w K Q else(∀f,oi.about P w a.eval=some f→F.fn f)∧K (a.put oi.dst undef) w):eL F n P md ops Q S last (fuel+1) listed a w :=
 ⟨fun h0=>(by rw[hr] at h0;cases h0),fun j hj=>(by rw[hr,List.mem_singleton] at hj;subst hj;exact wpOpIn_step hi fun K hK=>h K (fun a w q=>hK a w q))⟩
theorem eC {listed:Array Bool} {a:Act} {w:World} (hr:Region.ready md ops listed=[]) (h:Q .normal a w):∀fuel,eL F n P md ops Q S last fuel listed a w
 | 0=>⟨hr,h⟩
 | _+1=>⟨fun _=>h,by rw[hr];simp⟩
theorem dm {id:Nat} {a:Act} {w:World} (hm:P.follows .mixedOrders=true) (h:eL F n P .any ops Q S last ops.size (Array.replicate ops.size false) a w.drew):(Code.region id ops true).wpIn F n P Q a w :=
 wpIn_region_any hm (pW _ _ _ _ h)
end
theorem ti {F:Fence} {n:Nat} {P:Program} {ops:Array Oper} {Q:Exit→Act→World→Prop} {md:Region.Mode} {S:World→Prop} {last:Nat} {oi:Oper} {fuel:Nat} {listed:Array Bool} {a:Act} {w:World} (i d:Nat) (v:Value) (hS:S w)
 (hy:∀V,S V→(execOp a.eval oi).run P V=.ok (.value v) V) (h:eL F n P md ops Q S last fuel (listed.setIfInBounds i true) { a with tmps:=a.tmps.setIfInBounds d v } w) (hi:ops[i]?=some oi:=by exact rfl)
 (hB:((cQ md ops last&&decide (i≠last)||decide (ops.size≤last))&&Ak md ops listed i d)=true:=by kernel_rfl) (hro:F.round=none:=by exact rfl) (hw:Region.wanted oi (yielded ops a.tmps)=true:=by exact rfl) (hab:∀w,oi.about P w a.eval=none:=by exact fun _=>rfl)
 (hQ:∀c a w,Q (.panic c) (a.put oi.dst v) w→Q (.panic c) a w:=by exact fun _ _ _ h=>h):eL F n P md ops Q S last (fuel+1) listed a w:=tI i d v hi hB hro hw hab hQ hy hS h
theorem cy {F:Fence} {n:Nat} {P:Program} {ops:Array Oper} {Q:Exit→Act→World→Prop} {md:Region.Mode} {S:World→Prop} {last:Nat} {oi:Oper} {fuel:Nat} {listed:Array Bool} {a:Act} {w:World} (i d:Nat) (v:Value) (hS:S w)
 (h:eL F n P md ops Q S last fuel (listed.setIfInBounds i true) { a with tmps:=a.tmps.setIfInBounds d v } w) (hi:ops[i]?=some oi:=by exact rfl)
 (hB:((cQ md ops last&&decide (i≠last)||decide (ops.size≤last))&&Ak md ops listed i d)=true:=by kernel_rfl) (hro:F.round=none:=by exact rfl) (hw:Region.wanted oi (yielded ops a.tmps)=true:=by exact rfl) (hab:∀w,oi.about P w a.eval=none:=by exact fun _=>rfl)
 (hQ:∀c a w,Q (.panic c) (a.put oi.dst v) w→Q (.panic c) a w:=by exact fun _ _ _ h=>h) (hy:∀V,S V→(execOp a.eval oi).run P V=.ok (.value v) V:=by(intro _ _;simp[go_sem,execOp])):eL F n P md ops Q S last (fuel+1) listed a w:=tI i d v hi hB hro hw hab hQ hy hS h
theorem vM {F:Fld} (hs:F.sts.length≤1000) {l s:Int} (h0:0≤l) (h1:l≤1000) (_h2:0≤s) (_h3:s≤1000):0≤l*(F.sts.length:Int)∧l*(F.sts.length:Int)≤1000000:=by
 have:=Int.mul_le_mul (a:=l) (c:=1000) (b:=(F.sts.length:Int)) (d:=1000) (by omega) (by omega) (by omega) (by omega);have:=Int.mul_nonneg h0 (show(0:Int)≤F.sts.length by omega);omega
theorem j8 (w:World) (x:FV) (F:Fld) (l s:Int) (hs:F.sts.length≤1000) (h0:0≤l) (h1:l≤1000) (h2:0≤s) (h3:s≤1000) :
 Calls prog 139 #[x.val F,.int .i64 l,.int .i64 s] w fun e w'=>e=.returned (.int .i64 (eE F l s))∧Below w.heap.size w w':=by
 obtain⟨m1,m2⟩:=vM hs h0 h1 h2 h3;unfold eE FV.val FV.arr;go_enter func139,ntmps139;go_wp2_with fail;go_ret;exact⟨rfl,by go_grown⟩
theorem cW (w:World) (b:Nat) (x:FV) (F:Fld) (c:Cll) (l s:Int) (hs:F.sts.length≤1000) (h0:0≤l) (h1:l≤1000) (h2:0≤s) (h3:s≤1000) (h:w.heap[b]?=some (cK x F c)) :
 Calls prog 297 #[.int .i64 l,.int .i64 s,.pointer (some ⟨b,0,none⟩)] w fun e w'=>e=.returned (.int .i64 (eE F l s))∧Below w.heap.size w w':=by
 have HP:=aa (fun W=>j8 W x F l s hs h0 h1 h2 h3);have kk:=ak h;unfold bT at kk;unfold FV.val FV.arr at HP;go_enter func297,ntmps297;go_wp2_with fail;refine(HP.out _).mono ?_;rintro e w1 ⟨rfl,hb⟩;go_wp2_with fail;go_ret;exact⟨rfl,hb⟩
theorem xv (w:World) (x:FV) (F:Fld) (c:Cll):Calls prog 273 #[.agg (bT x F c)] w fun e w'=>e=.returned (.func (.func 296) #[] #[.pointer (some ⟨w.heap.size,0,none⟩)])∧w'=w.alloc (.cells (bT x F c) 245):=by
 unfold bT;go_enter func273,ntmps273;go_wp2_with fail;go_ret;exact⟨rfl,rfl⟩
def br (F:Fld) (c:Cll):List (Int×Int×Int×Int) :=
 if c.kind=1 then[(0,eE F c.limit c.fr,c.sz-c.er,c.sz+c.er)]
 else if c.kind=2 then[(eE F c.limit c.fr,eE F c.other c.fr,c.sz-c.er,c.sz+c.er)]
 else if c.kind=3 then[(eE F c.limit c.fr,eE F c.limit c.tt,((gV F c).1.getD (0,0)).1,((gV F c).1.getD (0,0)).2)]
 else if c.kind=4 then(List.range (c.tt-c.fr+1).toNat).map fun(i:Nat)=>(eE F c.limit (c.fr+(i:Int)),eE F c.other (c.fr+(i:Int)),0,0)
 else if c.kind=5 then[(eE F c.limit c.fr,eE F c.limit c.tt,c.sz-c.er,c.sz+c.er)]
 else[]
def gy (s:Int×Int×Int×Int):Value:=.agg #[.int .i64 s.1,.int .i64 s.2.1,.int .i64 s.2.2.1,.int .i64 s.2.2.2]
theorem yE (F:Fld) (c:Cll) (r:Int):eo F c r=(br F c).flatMap fun s=>eG s.1 s.2.1 s.2.2.1 s.2.2.2 r:=by
 unfold eo br li
 split
 ·simp
 ·split
  ·simp
  ·split
   ·simp
   ·split
    ·rw[List.flatMap_map]
    ·split<;>simp
theorem fy {β:Type} {J:β→World→Prop} {B:Nat} {s:β} {W W':World} (hJ:AbidesFrom B J) (h:J s W) (hb:Below W.heap.size W W'):J s W':=hJ s W W' none h (dJ hb) (fun r e=>by cases e)
theorem yc (l b:Nat) (Fix:Nat→Prop) (fb:Fix b) (W:World) (x:FV) (F:Fld) (c:Cll) (hk:c.kind=1) (hs:F.sts.length≤1000) (hlim:0≤c.limit∧c.limit≤1000) (hfr:0≤c.fr∧c.fr≤1000) (hsz:-100000≤c.sz∧c.sz≤100000) (her:0≤c.er∧c.er≤100000)
 (hb:W.heap[b]?=some (cK x F c)) (J:List (Int×Int×Int×Int)→World→Prop) (hJ:AbidesFrom W.heap.size J)
 (hY:∀pre y W1,J pre W1→pre.length<(br F c).length→YieldAt Fence.wide 6 prog l #[gy y] W1 fun e W'=>e=.returned (.bool true)∧J (pre++[y]) W'∧KeepsB Fix W1 W') (h0:J [] W) :
 CallsIn Fence.wide 7 prog 296 #[.func (.yield l) #[] #[],.pointer (some ⟨b,0,none⟩)] W fun e W'=>(∃v,e=.returned v)∧∃ys,ys=br F c∧J ys W':=by
 have e1:br F c=[(0,eE F c.limit c.fr,c.sz-c.er,c.sz+c.er)]:=by unfold br;rw[if_pos hk]
 rw[e1] at hY ⊢;clear e1;have HY:=aa hY;have HJ:=aa hJ;have Hp:=aa (fun W (h:W.heap[b]?=some (cK x F c))=>cW W b x F c c.limit c.fr hs hlim.1 hlim.2 hfr.1 hfr.2 h);obtain⟨p,hp⟩:=ag (eE F c.limit c.fr);rw[hp] at Hp HY ⊢;obtain⟨lo,hlo⟩:=ag (c.sz-c.er);obtain⟨hi,hhi⟩:=ag (c.sz+c.er)
 have wlo:IntKind.i64.wrap (c.sz-c.er)=lo:=by rw[hlo];exact IntWalk.i64_in _ (by omega)
 have whi:IntKind.i64.wrap (c.sz+c.er)=hi:=by rw[hhi];exact IntWalk.i64_in _ (by omega)
 rw[hlo,hhi] at HY ⊢;clear hlo hhi;clear hp;have kk:=ak hb;unfold cK bT at kk;clear hY hJ;refine callsIn_of_wp func296 rfl trivial ?_ rfl;simp only[ntmps296,List.size_toArray,List.length_cons,List.length_nil,Nat.reduceAdd,Nat.reduceSub,Array.replicate_succ,Array.replicate_zero,List.push_toArray,List.append_toArray,List.nil_append,List.cons_append];gi_wp2_with fail;have j0:=aa (fy HJ.out h0 (Below.refl _ W).drew);clear h0;have hS1:Kb [(b,cK x F c)] W.drew:=Kb.drew (W:=W) ⟨hb,trivial⟩;refine dm (S:=Kb [(b,cK x F c)]) (last:=100) (by kernel_rfl) ?_;refine cy 0 15 (.func (.yield l) #[] #[]) hS1 ?_;(try simp only[s3]);refine cy 1 16 (.func (.func 297) #[] #[.pointer (some ⟨b,0,none⟩)]) hS1 ?_;(try simp only[s3]);refine cy 2 17 (.pointer (some ⟨b,4,none⟩)) hS1 ?_;(try simp only[s3]);refine cy 3 18 (.pointer (some ⟨b,5,none⟩)) hS1 ?_;(try simp only[s3]);refine ti 4 19 (.int .i64 c.limit) hS1 (fun V hV=>?_) ?_
 ·(have z:=ak hV.1;unfold cK bT at z;simp[go_sem,execOp,z])
 (try simp only[s3]);refine cy 5 20 (.pointer (some ⟨b,4,none⟩)) hS1 ?_;(try simp only[s3]);refine cy 6 21 (.pointer (some ⟨b,7,none⟩)) hS1 ?_;(try simp only[s3]);refine ti 7 22 (.int .i64 c.fr) hS1 (fun V hV=>?_) ?_
 ·(have z:=ak hV.1;unfold cK bT at z;simp[go_sem,execOp,z])
 (try simp only[s3]);refine cy 9 24 (.pointer (some ⟨b,4,none⟩)) hS1 ?_;(try simp only[s3]);refine cy 10 25 (.pointer (some ⟨b,9,none⟩)) hS1 ?_;(try simp only[s3]);refine ti 11 26 (.int .i64 c.sz) hS1 (fun V hV=>?_) ?_
 ·(have z:=ak hV.1;unfold cK bT at z;simp[go_sem,execOp,z])
 (try simp only[s3]);refine cy 12 27 (.pointer (some ⟨b,4,none⟩)) hS1 ?_;(try simp only[s3]);refine cy 13 28 (.pointer (some ⟨b,10,none⟩)) hS1 ?_;(try simp only[s3]);refine ti 14 29 (.int .i64 c.er) hS1 (fun V hV=>?_) ?_
 ·(have z:=ak hV.1;unfold cK bT at z;simp[go_sem,execOp,z])
 (try simp only[s3]);refine ti 15 30 (.int .i64 lo) hS1 (fun V hV=>?_) ?_
 ·simp[go_sem,execOp,wlo]
 (try simp only[s3]);refine cy 16 31 (.pointer (some ⟨b,4,none⟩)) hS1 ?_;(try simp only[s3]);refine cy 17 32 (.pointer (some ⟨b,9,none⟩)) hS1 ?_;(try simp only[s3]);refine ti 18 33 (.int .i64 c.sz) hS1 (fun V hV=>?_) ?_
 ·(have z:=ak hV.1;unfold cK bT at z;simp[go_sem,execOp,z])
 (try simp only[s3]);refine cy 19 34 (.pointer (some ⟨b,4,none⟩)) hS1 ?_;(try simp only[s3]);refine cy 20 35 (.pointer (some ⟨b,10,none⟩)) hS1 ?_;(try simp only[s3]);refine ti 21 36 (.int .i64 c.er) hS1 (fun V hV=>?_) ?_
 ·(have z:=ak hV.1;unfold cK bT at z;simp[go_sem,execOp,z])
 (try simp only[s3]);refine ti 22 37 (.int .i64 hi) hS1 (fun V hV=>?_) ?_
 ·simp[go_sem,execOp,whi]
 (try simp only[s3]);refine sI 8 rfl (by kernel_rfl) (fun K hK=>?_);refine Eq.mpr (if_pos (by kernel_rfl)) ?_;gi_wp2_with fail;refine⟨trivial,(callsIn_wide.2 (Hp.out _ hS1.1)).mono ?_⟩;rintro e u1 ⟨rfl,hb1⟩;have hS1:=hS1.next hb1;have j1:=aa (fy HJ.out j0.out hb1);clear hb1;gi_wp2_with fail;refine hK.out _ _ ⟨.inr hS1,?_⟩;clear hK K;(try simp only[Act.put,s3]);refine cy 23 38 (.agg #[.int .i64 0,.int .i64 p,.int .i64 lo,.int .i64 hi]) hS1 ?_;(try simp only[s3]);obtain⟨fn,tmps,assign,body,hy,hR⟩:=HY.out [] (0,p,lo,hi) _ j1.out (by simp);dsimp only[gy] at hy;refine sI 24 rfl (by kernel_rfl) (fun K hK=>?_);refine Eq.mpr (if_pos (by kernel_rfl)) ?_;gi_wp2_with fail;refine hR.mono ?_;rintro e W3 ⟨rfl,hJ3,hk3⟩;have hS3:Kb [(b,cK x F c)] W3:=⟨(hk3.same b fb).trans hS1.1,trivial⟩;have HJ3:=aa hJ3;have HK3:=aa hk3;clear hJ3 hk3 hR hy;gi_wp2_with fail;refine hK.out _ _ ⟨.inr hS3,?_⟩;clear hK K;(try simp only[Act.put,s3]);refine eC (by kernel_rfl) ?_ _;gi_wp2_with fail
 go_end0
 exact⟨⟨_,rfl⟩,_,rfl,HJ3.out⟩
theorem xh (l b:Nat) (Fix:Nat→Prop) (fb:Fix b) (W:World) (x:FV) (F:Fld) (c:Cll) (hk:c.kind=2) (hs:F.sts.length≤1000) (hlim:0≤c.limit∧c.limit≤1000) (hfr:0≤c.fr∧c.fr≤1000) (hot:0≤c.other∧c.other≤1000) (hsz:-100000≤c.sz∧c.sz≤100000) (her:0≤c.er∧c.er≤100000)
 (hb:W.heap[b]?=some (cK x F c)) (J:List (Int×Int×Int×Int)→World→Prop) (hJ:AbidesFrom W.heap.size J)
 (hY:∀pre y W1,J pre W1→pre.length<(br F c).length→YieldAt Fence.wide 6 prog l #[gy y] W1 fun e W'=>e=.returned (.bool true)∧J (pre++[y]) W'∧KeepsB Fix W1 W') (h0:J [] W) :
 CallsIn Fence.wide 7 prog 296 #[.func (.yield l) #[] #[],.pointer (some ⟨b,0,none⟩)] W fun e W'=>(∃v,e=.returned v)∧∃ys,ys=br F c∧J ys W':=by
 have e1:br F c=[(eE F c.limit c.fr,eE F c.other c.fr,c.sz-c.er,c.sz+c.er)]:=by unfold br;rw[if_neg (by omega),if_pos hk]
 rw[e1] at hY ⊢;clear e1;have HY:=aa hY;have HJ:=aa hJ;have Hp:=aa (fun W (h:W.heap[b]?=some (cK x F c))=>cW W b x F c c.limit c.fr hs hlim.1 hlim.2 hfr.1 hfr.2 h);obtain⟨p,hp⟩:=ag (eE F c.limit c.fr);rw[hp] at Hp HY ⊢;have Hq:=aa (fun W (h:W.heap[b]?=some (cK x F c))=>cW W b x F c c.other c.fr hs hot.1 hot.2 hfr.1 hfr.2 h);obtain⟨q,hq⟩:=ag (eE F c.other c.fr);rw[hq] at Hq HY ⊢;obtain⟨lo,hlo⟩:=ag (c.sz-c.er);obtain⟨hi,hhi⟩:=ag (c.sz+c.er)
 have wlo:IntKind.i64.wrap (c.sz-c.er)=lo:=by rw[hlo];exact IntWalk.i64_in _ (by omega)
 have whi:IntKind.i64.wrap (c.sz+c.er)=hi:=by rw[hhi];exact IntWalk.i64_in _ (by omega)
 rw[hlo,hhi] at HY ⊢;clear hlo hhi;clear hp hq;have kk:=ak hb;unfold cK bT at kk;clear hY hJ;refine callsIn_of_wp func296 rfl trivial ?_ rfl;simp only[ntmps296,List.size_toArray,List.length_cons,List.length_nil,Nat.reduceAdd,Nat.reduceSub,Array.replicate_succ,Array.replicate_zero,List.push_toArray,List.append_toArray,List.nil_append,List.cons_append];gi_wp2_with fail;have j0:=aa (fy HJ.out h0 (Below.refl _ W).drew);clear h0;have hS1:Kb [(b,cK x F c)] W.drew:=Kb.drew (W:=W) ⟨hb,trivial⟩;refine dm (S:=Kb [(b,cK x F c)]) (last:=100) (by kernel_rfl) ?_;refine cy 0 42 (.func (.yield l) #[] #[]) hS1 ?_;(try simp only[s3]);refine cy 1 43 (.func (.func 297) #[] #[.pointer (some ⟨b,0,none⟩)]) hS1 ?_;(try simp only[s3]);refine cy 2 44 (.pointer (some ⟨b,4,none⟩)) hS1 ?_;(try simp only[s3]);refine cy 3 45 (.pointer (some ⟨b,5,none⟩)) hS1 ?_;(try simp only[s3]);refine ti 4 46 (.int .i64 c.limit) hS1 (fun V hV=>?_) ?_
 ·(have z:=ak hV.1;unfold cK bT at z;simp[go_sem,execOp,z])
 (try simp only[s3]);refine cy 5 47 (.pointer (some ⟨b,4,none⟩)) hS1 ?_;(try simp only[s3]);refine cy 6 48 (.pointer (some ⟨b,7,none⟩)) hS1 ?_;(try simp only[s3]);refine ti 7 49 (.int .i64 c.fr) hS1 (fun V hV=>?_) ?_
 ·(have z:=ak hV.1;unfold cK bT at z;simp[go_sem,execOp,z])
 (try simp only[s3]);refine cy 9 51 (.func (.func 297) #[] #[.pointer (some ⟨b,0,none⟩)]) hS1 ?_;(try simp only[s3]);refine cy 10 52 (.pointer (some ⟨b,4,none⟩)) hS1 ?_;(try simp only[s3]);refine cy 11 53 (.pointer (some ⟨b,6,none⟩)) hS1 ?_;(try simp only[s3]);refine ti 12 54 (.int .i64 c.other) hS1 (fun V hV=>?_) ?_
 ·(have z:=ak hV.1;unfold cK bT at z;simp[go_sem,execOp,z])
 (try simp only[s3]);refine cy 13 55 (.pointer (some ⟨b,4,none⟩)) hS1 ?_;(try simp only[s3]);refine cy 14 56 (.pointer (some ⟨b,7,none⟩)) hS1 ?_;(try simp only[s3]);refine ti 15 57 (.int .i64 c.fr) hS1 (fun V hV=>?_) ?_
 ·(have z:=ak hV.1;unfold cK bT at z;simp[go_sem,execOp,z])
 (try simp only[s3]);refine cy 17 59 (.pointer (some ⟨b,4,none⟩)) hS1 ?_;(try simp only[s3]);refine cy 18 60 (.pointer (some ⟨b,9,none⟩)) hS1 ?_;(try simp only[s3]);refine ti 19 61 (.int .i64 c.sz) hS1 (fun V hV=>?_) ?_
 ·(have z:=ak hV.1;unfold cK bT at z;simp[go_sem,execOp,z])
 (try simp only[s3]);refine cy 20 62 (.pointer (some ⟨b,4,none⟩)) hS1 ?_;(try simp only[s3]);refine cy 21 63 (.pointer (some ⟨b,10,none⟩)) hS1 ?_;(try simp only[s3]);refine ti 22 64 (.int .i64 c.er) hS1 (fun V hV=>?_) ?_
 ·(have z:=ak hV.1;unfold cK bT at z;simp[go_sem,execOp,z])
 (try simp only[s3]);refine ti 23 65 (.int .i64 lo) hS1 (fun V hV=>?_) ?_
 ·simp[go_sem,execOp,wlo]
 (try simp only[s3]);refine cy 24 66 (.pointer (some ⟨b,4,none⟩)) hS1 ?_;(try simp only[s3]);refine cy 25 67 (.pointer (some ⟨b,9,none⟩)) hS1 ?_;(try simp only[s3]);refine ti 26 68 (.int .i64 c.sz) hS1 (fun V hV=>?_) ?_
 ·(have z:=ak hV.1;unfold cK bT at z;simp[go_sem,execOp,z])
 (try simp only[s3]);refine cy 27 69 (.pointer (some ⟨b,4,none⟩)) hS1 ?_;(try simp only[s3]);refine cy 28 70 (.pointer (some ⟨b,10,none⟩)) hS1 ?_;(try simp only[s3]);refine ti 29 71 (.int .i64 c.er) hS1 (fun V hV=>?_) ?_
 ·(have z:=ak hV.1;unfold cK bT at z;simp[go_sem,execOp,z])
 (try simp only[s3]);refine ti 30 72 (.int .i64 hi) hS1 (fun V hV=>?_) ?_
 ·simp[go_sem,execOp,whi]
 (try simp only[s3]);refine sI 8 rfl (by kernel_rfl) (fun K hK=>?_);refine Eq.mpr (if_pos (by kernel_rfl)) ?_;gi_wp2_with fail;refine⟨trivial,(callsIn_wide.2 (Hp.out _ hS1.1)).mono ?_⟩;rintro e u1 ⟨rfl,hb1⟩;have hS1:=hS1.next hb1;have j1:=aa (fy HJ.out j0.out hb1);clear hb1;gi_wp2_with fail;refine hK.out _ _ ⟨.inr hS1,?_⟩;clear hK K;(try simp only[Act.put,s3]);refine sI 16 rfl (by kernel_rfl) (fun K hK=>?_);refine Eq.mpr (if_pos (by kernel_rfl)) ?_;gi_wp2_with fail;refine⟨trivial,(callsIn_wide.2 (Hq.out _ hS1.1)).mono ?_⟩;rintro e u2 ⟨rfl,hb2⟩;have hS2:=hS1.next hb2;have j2:=aa (fy HJ.out j1.out hb2);clear hb2;gi_wp2_with fail;refine hK.out _ _ ⟨.inr hS2,?_⟩;clear hK K;(try simp only[Act.put,s3]);refine cy 31 73 (.agg #[.int .i64 p,.int .i64 q,.int .i64 lo,.int .i64 hi]) hS2 ?_;(try simp only[s3]);obtain⟨fn,tmps,assign,body,hy,hR⟩:=HY.out [] (p,q,lo,hi) _ j2.out (by simp);dsimp only[gy] at hy;refine sI 32 rfl (by kernel_rfl) (fun K hK=>?_);refine Eq.mpr (if_pos (by kernel_rfl)) ?_;gi_wp2_with fail;refine hR.mono ?_;rintro e W3 ⟨rfl,hJ3,hk3⟩;have hS3:Kb [(b,cK x F c)] W3:=⟨(hk3.same b fb).trans hS2.1,trivial⟩;have HJ3:=aa hJ3;have HK3:=aa hk3;clear hJ3 hk3 hR hy;gi_wp2_with fail;refine hK.out _ _ ⟨.inr hS3,?_⟩;clear hK K;(try simp only[Act.put,s3]);refine eC (by kernel_rfl) ?_ _;gi_wp2_with fail
 go_end0
 exact⟨⟨_,rfl⟩,_,rfl,HJ3.out⟩
theorem xk (l b:Nat) (Fix:Nat→Prop) (fb:Fix b) (W:World) (x:FV) (F:Fld) (c:Cll) (hk:c.kind=5) (hs:F.sts.length≤1000) (hlim:0≤c.limit∧c.limit≤1000) (hfr:0≤c.fr∧c.fr≤1000) (htt:0≤c.tt∧c.tt≤1000) (hsz:-100000≤c.sz∧c.sz≤100000) (her:0≤c.er∧c.er≤100000)
 (hb:W.heap[b]?=some (cK x F c)) (J:List (Int×Int×Int×Int)→World→Prop) (hJ:AbidesFrom W.heap.size J)
 (hY:∀pre y W1,J pre W1→pre.length<(br F c).length→YieldAt Fence.wide 6 prog l #[gy y] W1 fun e W'=>e=.returned (.bool true)∧J (pre++[y]) W'∧KeepsB Fix W1 W') (h0:J [] W) :
 CallsIn Fence.wide 7 prog 296 #[.func (.yield l) #[] #[],.pointer (some ⟨b,0,none⟩)] W fun e W'=>(∃v,e=.returned v)∧∃ys,ys=br F c∧J ys W':=by
 have e1:br F c=[(eE F c.limit c.fr,eE F c.limit c.tt,c.sz-c.er,c.sz+c.er)]:=by unfold br;rw[if_neg (by omega),if_neg (by omega),if_neg (by omega),if_neg (by omega),if_pos hk]
 rw[e1] at hY ⊢;clear e1;have HY:=aa hY;have HJ:=aa hJ;have Hp:=aa (fun W (h:W.heap[b]?=some (cK x F c))=>cW W b x F c c.limit c.fr hs hlim.1 hlim.2 hfr.1 hfr.2 h);obtain⟨p,hp⟩:=ag (eE F c.limit c.fr);rw[hp] at Hp HY ⊢;have Hq:=aa (fun W (h:W.heap[b]?=some (cK x F c))=>cW W b x F c c.limit c.tt hs hlim.1 hlim.2 htt.1 htt.2 h);obtain⟨q,hq⟩:=ag (eE F c.limit c.tt);rw[hq] at Hq HY ⊢;obtain⟨lo,hlo⟩:=ag (c.sz-c.er);obtain⟨hi,hhi⟩:=ag (c.sz+c.er)
 have wlo:IntKind.i64.wrap (c.sz-c.er)=lo:=by rw[hlo];exact IntWalk.i64_in _ (by omega)
 have whi:IntKind.i64.wrap (c.sz+c.er)=hi:=by rw[hhi];exact IntWalk.i64_in _ (by omega)
 rw[hlo,hhi] at HY ⊢;clear hlo hhi;clear hp hq;have kk:=ak hb;unfold cK bT at kk;clear hY hJ;refine callsIn_of_wp func296 rfl trivial ?_ rfl;simp only[ntmps296,List.size_toArray,List.length_cons,List.length_nil,Nat.reduceAdd,Nat.reduceSub,Array.replicate_succ,Array.replicate_zero,List.push_toArray,List.append_toArray,List.nil_append,List.cons_append];gi_wp2_with fail;have j0:=aa (fy HJ.out h0 (Below.refl _ W).drew);clear h0;have hS1:Kb [(b,cK x F c)] W.drew:=Kb.drew (W:=W) ⟨hb,trivial⟩;refine dm (S:=Kb [(b,cK x F c)]) (last:=100) (by kernel_rfl) ?_;refine cy 0 77 (.func (.yield l) #[] #[]) hS1 ?_;(try simp only[s3]);refine cy 1 78 (.func (.func 297) #[] #[.pointer (some ⟨b,0,none⟩)]) hS1 ?_;(try simp only[s3]);refine cy 2 79 (.pointer (some ⟨b,4,none⟩)) hS1 ?_;(try simp only[s3]);refine cy 3 80 (.pointer (some ⟨b,5,none⟩)) hS1 ?_;(try simp only[s3]);refine ti 4 81 (.int .i64 c.limit) hS1 (fun V hV=>?_) ?_
 ·(have z:=ak hV.1;unfold cK bT at z;simp[go_sem,execOp,z])
 (try simp only[s3]);refine cy 5 82 (.pointer (some ⟨b,4,none⟩)) hS1 ?_;(try simp only[s3]);refine cy 6 83 (.pointer (some ⟨b,7,none⟩)) hS1 ?_;(try simp only[s3]);refine ti 7 84 (.int .i64 c.fr) hS1 (fun V hV=>?_) ?_
 ·(have z:=ak hV.1;unfold cK bT at z;simp[go_sem,execOp,z])
 (try simp only[s3]);refine cy 9 86 (.func (.func 297) #[] #[.pointer (some ⟨b,0,none⟩)]) hS1 ?_;(try simp only[s3]);refine cy 10 87 (.pointer (some ⟨b,4,none⟩)) hS1 ?_;(try simp only[s3]);refine cy 11 88 (.pointer (some ⟨b,5,none⟩)) hS1 ?_;(try simp only[s3]);refine ti 12 89 (.int .i64 c.limit) hS1 (fun V hV=>?_) ?_
 ·(have z:=ak hV.1;unfold cK bT at z;simp[go_sem,execOp,z])
 (try simp only[s3]);refine cy 13 90 (.pointer (some ⟨b,4,none⟩)) hS1 ?_;(try simp only[s3]);refine cy 14 91 (.pointer (some ⟨b,8,none⟩)) hS1 ?_;(try simp only[s3]);refine ti 15 92 (.int .i64 c.tt) hS1 (fun V hV=>?_) ?_
 ·(have z:=ak hV.1;unfold cK bT at z;simp[go_sem,execOp,z])
 (try simp only[s3]);refine cy 17 94 (.pointer (some ⟨b,4,none⟩)) hS1 ?_;(try simp only[s3]);refine cy 18 95 (.pointer (some ⟨b,9,none⟩)) hS1 ?_;(try simp only[s3]);refine ti 19 96 (.int .i64 c.sz) hS1 (fun V hV=>?_) ?_
 ·(have z:=ak hV.1;unfold cK bT at z;simp[go_sem,execOp,z])
 (try simp only[s3]);refine cy 20 97 (.pointer (some ⟨b,4,none⟩)) hS1 ?_;(try simp only[s3]);refine cy 21 98 (.pointer (some ⟨b,10,none⟩)) hS1 ?_;(try simp only[s3]);refine ti 22 99 (.int .i64 c.er) hS1 (fun V hV=>?_) ?_
 ·(have z:=ak hV.1;unfold cK bT at z;simp[go_sem,execOp,z])
 (try simp only[s3]);refine ti 23 100 (.int .i64 lo) hS1 (fun V hV=>?_) ?_
 ·simp[go_sem,execOp,wlo]
 (try simp only[s3]);refine cy 24 101 (.pointer (some ⟨b,4,none⟩)) hS1 ?_;(try simp only[s3]);refine cy 25 102 (.pointer (some ⟨b,9,none⟩)) hS1 ?_;(try simp only[s3]);refine ti 26 103 (.int .i64 c.sz) hS1 (fun V hV=>?_) ?_
 ·(have z:=ak hV.1;unfold cK bT at z;simp[go_sem,execOp,z])
 (try simp only[s3]);refine cy 27 104 (.pointer (some ⟨b,4,none⟩)) hS1 ?_;(try simp only[s3]);refine cy 28 105 (.pointer (some ⟨b,10,none⟩)) hS1 ?_;(try simp only[s3]);refine ti 29 106 (.int .i64 c.er) hS1 (fun V hV=>?_) ?_
 ·(have z:=ak hV.1;unfold cK bT at z;simp[go_sem,execOp,z])
 (try simp only[s3]);refine ti 30 107 (.int .i64 hi) hS1 (fun V hV=>?_) ?_
 ·simp[go_sem,execOp,whi]
 (try simp only[s3]);refine sI 8 rfl (by kernel_rfl) (fun K hK=>?_);refine Eq.mpr (if_pos (by kernel_rfl)) ?_;gi_wp2_with fail;refine⟨trivial,(callsIn_wide.2 (Hp.out _ hS1.1)).mono ?_⟩;rintro e u1 ⟨rfl,hb1⟩;have hS1:=hS1.next hb1;have j1:=aa (fy HJ.out j0.out hb1);clear hb1;gi_wp2_with fail;refine hK.out _ _ ⟨.inr hS1,?_⟩;clear hK K;(try simp only[Act.put,s3]);refine sI 16 rfl (by kernel_rfl) (fun K hK=>?_);refine Eq.mpr (if_pos (by kernel_rfl)) ?_;gi_wp2_with fail;refine⟨trivial,(callsIn_wide.2 (Hq.out _ hS1.1)).mono ?_⟩;rintro e u2 ⟨rfl,hb2⟩;have hS2:=hS1.next hb2;have j2:=aa (fy HJ.out j1.out hb2);clear hb2;gi_wp2_with fail;refine hK.out _ _ ⟨.inr hS2,?_⟩;clear hK K;(try simp only[Act.put,s3]);refine cy 31 108 (.agg #[.int .i64 p,.int .i64 q,.int .i64 lo,.int .i64 hi]) hS2 ?_;(try simp only[s3]);obtain⟨fn,tmps,assign,body,hy,hR⟩:=HY.out [] (p,q,lo,hi) _ j2.out (by simp);dsimp only[gy] at hy;refine sI 32 rfl (by kernel_rfl) (fun K hK=>?_);refine Eq.mpr (if_pos (by kernel_rfl)) ?_;gi_wp2_with fail;refine hR.mono ?_;rintro e W3 ⟨rfl,hJ3,hk3⟩;have hS3:Kb [(b,cK x F c)] W3:=⟨(hk3.same b fb).trans hS2.1,trivial⟩;have HJ3:=aa hJ3;have HK3:=aa hk3;clear hJ3 hk3 hR hy;gi_wp2_with fail;refine hK.out _ _ ⟨.inr hS3,?_⟩;clear hK K;(try simp only[Act.put,s3]);refine eC (by kernel_rfl) ?_ _;gi_wp2_with fail
 go_end0
 exact⟨⟨_,rfl⟩,_,rfl,HJ3.out⟩
theorem xU (l b:Nat) (Fix:Nat→Prop) (fb:Fix b) (W:World) (x:FV) (F:Fld) (c:Cll) (hk:c.kind=3) (hs:F.sts.length≤1000) (hlim:0≤c.limit∧c.limit≤1000) (hfr:0≤c.fr∧c.fr≤1000) (htt:0≤c.tt∧c.tt≤1000) (hF:F.check=0) (hf:FldAt W x F) (hs1:aY F c.fr=true) (hs2:aY F c.tt=true) {lo hi:Int} (hiv:gV F c=(some (lo,hi),0))
 (hb:W.heap[b]?=some (cK x F c)) (J:List (Int×Int×Int×Int)→World→Prop) (hJ:AbidesFrom W.heap.size J)
 (hY:∀pre y W1,J pre W1→pre.length<(br F c).length→YieldAt Fence.wide 6 prog l #[gy y] W1 fun e W'=>e=.returned (.bool true)∧J (pre++[y]) W'∧KeepsB Fix W1 W') (h0:J [] W) :
 CallsIn Fence.wide 7 prog 296 #[.func (.yield l) #[] #[],.pointer (some ⟨b,0,none⟩)] W fun e W'=>(∃v,e=.returned v)∧∃ys,ys=br F c∧J ys W':=by
 have e1:br F c=[(eE F c.limit c.fr,eE F c.limit c.tt,lo,hi)]:=by unfold br;rw[if_neg (by omega),if_neg (by omega),if_pos hk,hiv];rfl
 rw[e1] at hY ⊢;clear e1;have HY:=aa hY;have HJ:=aa hJ;have Hp:=aa (fun W (h:W.heap[b]?=some (cK x F c))=>cW W b x F c c.limit c.fr hs hlim.1 hlim.2 hfr.1 hfr.2 h);obtain⟨p,hp⟩:=ag (eE F c.limit c.fr);rw[hp] at Hp HY ⊢;have Hq:=aa (fun W (h:W.heap[b]?=some (cK x F c))=>cW W b x F c c.limit c.tt hs hlim.1 hlim.2 htt.1 htt.2 h);obtain⟨q,hq⟩:=ag (eE F c.limit c.tt);rw[hq] at Hq HY ⊢;clear hp hq;have HRUN:=aa (fun W (hW:FldAt W x F)=>wo W x F c hF hW hs1 hs2);have HITV:=aa (fun W (hW:VrnsAt W x.aV F.vrs)=>rV W x.aV x.cV F.vrs c.crs (oX F c) (by have:=hf.lv;omega) hW);have hiv':=hiv;unfold gV at hiv';rw[hiv'] at HITV;unfold il at HITV;dsimp only at HITV;obtain⟨run,hrun⟩:=ag (oX F c);rw[hrun] at HRUN HITV;have f0:=aa (hf.below (Below.refl W.heap.size W).drew);clear hrun hiv hiv' hf hF hs1 hs2;have kk:=ak hb;unfold cK bT at kk;clear hY hJ;refine callsIn_of_wp func296 rfl trivial ?_ rfl;simp only[ntmps296,List.size_toArray,List.length_cons,List.length_nil,Nat.reduceAdd,Nat.reduceSub,Array.replicate_succ,Array.replicate_zero,List.push_toArray,List.append_toArray,List.nil_append,List.cons_append];gi_wp2_with fail;have j0:=aa (fy HJ.out h0 (Below.refl _ W).drew);clear h0;have hS1:Kb [(b,cK x F c)] W.drew:=Kb.drew (W:=W) ⟨hb,trivial⟩;refine dm (S:=Kb [(b,cK x F c)]) (last:=100) (by kernel_rfl) ?_;refine cy 0 113 (.pointer (some ⟨b,0,none⟩)) hS1 ?_;(try simp only[s3]);refine cy 1 114 (.pointer (some ⟨b,3,none⟩)) hS1 ?_;(try simp only[s3]);refine ti 2 115 (.slice x.aV F.vrs.length x.cV) hS1 (fun V hV=>?_) ?_
 ·(have z:=ak hV.1;unfold cK bT at z;simp[go_sem,execOp,z])
 (try simp only[s3]);refine cy 3 116 (.pointer (some ⟨b,4,none⟩)) hS1 ?_;(try simp only[s3]);refine cy 4 117 (.pointer (some ⟨b,11,none⟩)) hS1 ?_;(try simp only[s3]);refine ti 5 118 (.agg #[.int .i64 c.crs.bearing,.int .i64 c.crs.needle,.int .i64 c.crs.links,.int .i64 c.crs.year,.int .i64 c.crs.wear,.int .i64 c.crs.slack]) hS1 (fun V hV=>?_) ?_
 ·(have z:=ak hV.1;unfold cK bT at z;simp[go_sem,execOp,z])
 (try simp only[s3]);refine ti 6 119 (.agg (bT x F c)) hS1 (fun V hV=>?_) ?_
 ·exact gp rfl rfl hV.1 underlying245 rfl (by kernel_rfl)
 (try simp only[s3]);refine sI 7 rfl (by kernel_rfl) (fun K hK=>?_);refine Eq.mpr (if_pos (by kernel_rfl)) ?_;gi_wp2_with fail;refine⟨trivial,(callsIn_wide.2 (HRUN.out _ f0.out)).mono ?_⟩;rintro e u1 ⟨rfl,hb1⟩;have hS1:=hS1.next hb1;have j1:=aa (fy HJ.out j0.out hb1);have f1:=aa (f0.out.below hb1);clear hb1;gi_wp2_with fail;refine hK.out _ _ ⟨.inr hS1,?_⟩;clear hK K;(try simp only[Act.put,s3]);refine sI 8 rfl (by kernel_rfl) (fun K hK=>?_);refine Eq.mpr (if_pos (by kernel_rfl)) ?_;gi_wp2_with fail;refine⟨trivial,(callsIn_wide.2 (HITV.out _ f1.out.vr)).mono ?_⟩;rintro e u2 ⟨rfl,hb2⟩;have hS2:=hS1.next hb2;have j2:=aa (fy HJ.out j1.out hb2);have f2:=aa (f1.out.below hb2);clear hb2;gi_wp2_with fail;refine hK.out _ _ ⟨.inr hS2,?_⟩;clear hK K;(try simp only[Act.put,s3]);refine cy 9 112 (.tuple #[.int .i64 lo,.int .i64 hi,.bool true,.int .i64 0]) hS2 ?_;(try simp only[s3]);refine cy 10 122 (.int .i64 lo) hS2 ?_;(try simp only[s3]);refine cy 11 123 (.int .i64 hi) hS2 ?_;(try simp only[s3]);refine cy 12 124 (.bool true) hS2 ?_;(try simp only[s3]);refine cy 13 125 (.int .i64 0) hS2 ?_;(try simp only[s3]);refine cy 14 4 (.int .i64 lo) hS2 ?_;(try simp only[s3]);refine cy 15 5 (.int .i64 hi) hS2 ?_;(try simp only[s3]);refine cy 16 6 (.bool true) hS2 ?_;(try simp only[s3]);refine cy 17 7 (.int .i64 0) hS2 ?_;(try simp only[s3]);refine eC (by kernel_rfl) ?_ _;gi_wp2_with fail;have j3:=aa (fy HJ.out j2.out (Below.refl _ u2).drew);have hS4:=hS2.drew;have j4:=j3;refine dm (S:=Kb [(b,cK x F c)]) (last:=100) (by kernel_rfl) ?_;refine cy 0 126 (.func (.yield l) #[] #[]) hS4 ?_;(try simp only[s3]);refine cy 1 127 (.func (.func 297) #[] #[.pointer (some ⟨b,0,none⟩)]) hS4 ?_;(try simp only[s3]);refine cy 2 128 (.pointer (some ⟨b,4,none⟩)) hS4 ?_;(try simp only[s3]);refine cy 3 129 (.pointer (some ⟨b,5,none⟩)) hS4 ?_;(try simp only[s3]);refine ti 4 130 (.int .i64 c.limit) hS4 (fun V hV=>?_) ?_
 ·(have z:=ak hV.1;unfold cK bT at z;simp[go_sem,execOp,z])
 (try simp only[s3]);refine cy 5 131 (.pointer (some ⟨b,4,none⟩)) hS4 ?_;(try simp only[s3]);refine cy 6 132 (.pointer (some ⟨b,7,none⟩)) hS4 ?_;(try simp only[s3]);refine ti 7 133 (.int .i64 c.fr) hS4 (fun V hV=>?_) ?_
 ·(have z:=ak hV.1;unfold cK bT at z;simp[go_sem,execOp,z])
 (try simp only[s3]);refine cy 9 135 (.func (.func 297) #[] #[.pointer (some ⟨b,0,none⟩)]) hS4 ?_;(try simp only[s3]);refine cy 10 136 (.pointer (some ⟨b,4,none⟩)) hS4 ?_;(try simp only[s3]);refine cy 11 137 (.pointer (some ⟨b,5,none⟩)) hS4 ?_;(try simp only[s3]);refine ti 12 138 (.int .i64 c.limit) hS4 (fun V hV=>?_) ?_
 ·(have z:=ak hV.1;unfold cK bT at z;simp[go_sem,execOp,z])
 (try simp only[s3]);refine cy 13 139 (.pointer (some ⟨b,4,none⟩)) hS4 ?_;(try simp only[s3]);refine cy 14 140 (.pointer (some ⟨b,8,none⟩)) hS4 ?_;(try simp only[s3]);refine ti 15 141 (.int .i64 c.tt) hS4 (fun V hV=>?_) ?_
 ·(have z:=ak hV.1;unfold cK bT at z;simp[go_sem,execOp,z])
 (try simp only[s3]);refine cy 17 143 (.int .i64 lo) hS4 ?_;(try simp only[s3]);refine cy 18 144 (.int .i64 hi) hS4 ?_;(try simp only[s3]);refine sI 8 rfl (by kernel_rfl) (fun K hK=>?_);refine Eq.mpr (if_pos (by kernel_rfl)) ?_;gi_wp2_with fail;refine⟨trivial,(callsIn_wide.2 (Hp.out _ hS4.1)).mono ?_⟩;rintro e u5 ⟨rfl,hb5⟩;have hS5:=hS4.next hb5;have j5:=aa (fy HJ.out j4.out hb5);clear hb5;gi_wp2_with fail;refine hK.out _ _ ⟨.inr hS5,?_⟩;clear hK K;(try simp only[Act.put,s3]);refine sI 16 rfl (by kernel_rfl) (fun K hK=>?_);refine Eq.mpr (if_pos (by kernel_rfl)) ?_;gi_wp2_with fail;refine⟨trivial,(callsIn_wide.2 (Hq.out _ hS5.1)).mono ?_⟩;rintro e u6 ⟨rfl,hb6⟩;have hS6:=hS5.next hb6;have j6:=aa (fy HJ.out j5.out hb6);clear hb6;gi_wp2_with fail;refine hK.out _ _ ⟨.inr hS6,?_⟩;clear hK K;(try simp only[Act.put,s3]);refine cy 19 145 (.agg #[.int .i64 p,.int .i64 q,.int .i64 lo,.int .i64 hi]) hS6 ?_;(try simp only[s3]);obtain⟨fn,tmps,assign,body,hy,hR⟩:=HY.out [] (p,q,lo,hi) _ j6.out (by simp);dsimp only[gy] at hy;refine sI 20 rfl (by kernel_rfl) (fun K hK=>?_);refine Eq.mpr (if_pos (by kernel_rfl)) ?_;gi_wp2_with fail;refine hR.mono ?_;rintro e W3 ⟨rfl,hJ3,hk3⟩;have hS3:Kb [(b,cK x F c)] W3:=⟨(hk3.same b fb).trans hS6.1,trivial⟩;have HJ3:=aa hJ3;have HK3:=aa hk3;clear hJ3 hk3 hR hy;gi_wp2_with fail;refine hK.out _ _ ⟨.inr hS3,?_⟩;clear hK K;(try simp only[Act.put,s3]);refine eC (by kernel_rfl) ?_ _;gi_wp2_with fail
 go_end0
 exact⟨⟨_,rfl⟩,_,rfl,HJ3.out⟩
theorem xT (l b:Nat) (Fix:Nat→Prop) (fb:Fix b) (W:World) (x:FV) (F:Fld) (c:Cll) (hk:c.kind=4) (hs:F.sts.length≤1000) (hlim:0≤c.limit∧c.limit≤1000) (hfr:0≤c.fr∧c.fr≤1000) (htt:c.fr<c.tt∧c.tt≤1000) (hot:0≤c.other∧c.other≤1000)
 (hb:W.heap[b]?=some (cK x F c)) (J:List (Int×Int×Int×Int)→World→Prop) (hJ:AbidesFrom W.heap.size J)
 (hY:∀pre y W1,J pre W1→pre.length<(br F c).length→YieldAt Fence.wide 6 prog l #[gy y] W1 fun e W'=>e=.returned (.bool true)∧J (pre++[y]) W'∧KeepsB Fix W1 W') (h0:J [] W) :
 CallsIn Fence.wide 7 prog 296 #[.func (.yield l) #[] #[],.pointer (some ⟨b,0,none⟩)] W fun e W'=>(∃v,e=.returned v)∧∃ys,ys=br F c∧J ys W':=by
 obtain⟨n,hn⟩:∃n:Nat,c.tt-c.fr+1=n:=⟨(c.tt-c.fr+1).toNat,by omega⟩
 have e1:br F c=(List.range n).map fun(i:Nat)=>(eE F c.limit (c.fr+(i:Int)),eE F c.other (c.fr+(i:Int)),0,0):=by
  unfold br;rw[if_neg (by omega),if_neg (by omega),if_neg (by omega),if_pos hk,hn];rfl
 have HTK0:=aa (show ∀k,k<n→(br F c).take k++[(eE F c.limit (c.fr+(k:Int)),eE F c.other (c.fr+(k:Int)),0,0)]=(br F c).take (k+1) by
  intro k hk;rw[e1,List.take_add_one]
  congr 1
  rw[List.getElem?_map,List.getElem?_range hk]
  rfl)
 have HLN:=aa (show(br F c).length=n by rw[e1];simp);obtain⟨L,hL⟩:=ag (br F c);rw[hL] at hY HTK0 HLN ⊢;clear hL e1;have HY:=aa hY;have HJ:=aa hJ;have kk:=ak hb;unfold cK bT at kk;clear hY hJ;refine callsIn_of_wp func296 rfl trivial ?_ rfl;simp only[ntmps296,List.size_toArray,List.length_cons,List.length_nil,Nat.reduceAdd,Nat.reduceSub,Array.replicate_succ,Array.replicate_zero,List.push_toArray,List.append_toArray,List.nil_append,List.cons_append];have hS0:=aa (show Kb [(b,cK x F c)] W from⟨hb,trivial⟩);have HSZ:=aa (Nat.le_refl W.heap.size);clear hb;gi_wp2_with fail;clear kk;gi_loopw [8] (fun i wr=>∃k:Nat,k≤n∧i=.int .i64 (c.fr+k)∧Hid (J (L.take k) wr)∧Hid (Kb [(b,cK x F c)] wr)) (fun i _=>n-(intOf i-c.fr).toNat)
 case atStart=>exact⟨0,Nat.zero_le _,by simp,aa h0,hS0⟩
 case round =>
  obtain⟨k,hkn,rfl,hJk,hSk⟩:=hrel;have kk:=ak hSk.out.1;unfold cK bT at kk
  by_cases hlt:k<n
  ·have HTK:=aa (HTK0.out k hlt)
   obtain⟨i,hi⟩:=ag (c.fr+(k:Int))
   have hib:0≤i∧i≤1000:=by omega
   have hile:i≤c.tt:=by omega
   have Hp:=aa (fun W (h:W.heap[b]?=some (cK x F c))=>cW W b x F c c.limit i hs hlim.1 hlim.2 hib.1 hib.2 h);have Hq:=aa (fun W (h:W.heap[b]?=some (cK x F c))=>cW W b x F c c.other i hs hot.1 hot.2 hib.1 hib.2 h);rw[hi] at HTK ⊢;obtain⟨p,hp⟩:=ag (eE F c.limit i);obtain⟨q,hq⟩:=ag (eE F c.other i);rw[hp] at Hp HTK;rw[hq] at Hq HTK;have HI:=aa hi;have HN:=aa hn;clear hp hq hi hn;gi_wp2_with fail;have j0:=aa (fy HJ.out hJk.out (Below.refl _ wr).drew);have hS1:Kb [(b,cK x F c)] wr.drew:=hSk.out.drew;refine dm (S:=Kb [(b,cK x F c)]) (last:=100) (by kernel_rfl) ?_;refine cy 0 159 (.func (.yield l) #[] #[]) hS1 ?_;(try simp only[s3]);refine cy 1 160 (.func (.func 297) #[] #[.pointer (some ⟨b,0,none⟩)]) hS1 ?_;(try simp only[s3]);refine cy 2 161 (.pointer (some ⟨b,4,none⟩)) hS1 ?_;(try simp only[s3]);refine cy 3 162 (.pointer (some ⟨b,5,none⟩)) hS1 ?_;(try simp only[s3]);refine ti 4 163 (.int .i64 c.limit) hS1 (fun V hV=>?_) ?_
   ·(have z:=ak hV.1;unfold cK bT at z;simp[go_sem,execOp,z])
   (try simp only[s3]);refine cy 5 164 (.int .i64 i) hS1 ?_;(try simp only[s3]);refine cy 7 166 (.func (.func 297) #[] #[.pointer (some ⟨b,0,none⟩)]) hS1 ?_;(try simp only[s3]);refine cy 8 167 (.pointer (some ⟨b,4,none⟩)) hS1 ?_;(try simp only[s3]);refine cy 9 168 (.pointer (some ⟨b,6,none⟩)) hS1 ?_;(try simp only[s3]);refine ti 10 169 (.int .i64 c.other) hS1 (fun V hV=>?_) ?_
   ·(have z:=ak hV.1;unfold cK bT at z;simp[go_sem,execOp,z])
   (try simp only[s3]);refine cy 11 170 (.int .i64 i) hS1 ?_;(try simp only[s3]);refine sI 6 rfl (by kernel_rfl) (fun K hK=>?_);refine Eq.mpr (if_pos (by kernel_rfl)) ?_;gi_wp2_with fail;refine⟨trivial,(callsIn_wide.2 (Hp.out _ hS1.1)).mono ?_⟩;rintro e u1 ⟨rfl,hb1⟩;have hS1:=hS1.next hb1;have j1:=aa (fy HJ.out j0.out hb1);clear hb1;gi_wp2_with fail;refine hK.out _ _ ⟨.inr hS1,?_⟩;clear hK K;(try simp only[Act.put,s3]);refine sI 12 rfl (by kernel_rfl) (fun K hK=>?_);refine Eq.mpr (if_pos (by kernel_rfl)) ?_;gi_wp2_with fail;refine⟨trivial,(callsIn_wide.2 (Hq.out _ hS1.1)).mono ?_⟩;rintro e u2 ⟨rfl,hb2⟩;have hS2:=hS1.next hb2;have j2:=aa (fy HJ.out j1.out hb2);clear hb2;gi_wp2_with fail;refine hK.out _ _ ⟨.inr hS2,?_⟩;clear hK K;(try simp only[Act.put,s3]);refine cy 13 172 (.agg #[.int .i64 p,.int .i64 q,.int .i64 0,.int .i64 0]) hS2 ?_;(try simp only[s3]);obtain⟨fn,tmps,assign,body,hy,hR⟩:=HY.out _ (p,q,0,0) _ j2.out (by rw[List.length_take];have:=HLN.out;omega);dsimp only[gy] at hy;refine sI 14 rfl (by kernel_rfl) (fun K hK=>?_);refine Eq.mpr (if_pos (by kernel_rfl)) ?_;gi_wp2_with fail;refine hR.mono ?_;rintro e W3 ⟨rfl,hJ3,hk3⟩;rw[HTK.out] at hJ3;have hS3:Kb [(b,cK x F c)] W3:=⟨(hk3.same b fb).trans hS2.1,trivial⟩;have HJ3:=aa hJ3;clear hJ3 hk3 hR hy;gi_wp2_with fail;refine hK.out _ _ ⟨.inr hS3,?_⟩;clear hK K;(try simp only[Act.put,s3]);refine cy 15 174 (.bool false) hS3 ?_;(try simp only[s3]);refine eC (by kernel_rfl) ?_ _;gi_wp2_with fail;go_roundw
   case rel=>exact⟨k+1,by omega,by have:=HI.out;go_num,HJ3,hS3⟩
   case measure=>have:=HI.out;simp[intOf];omega
  ·obtain rfl:k=n:=by omega
   have hgt:¬(c.fr+(k:Int)≤c.tt):=by omega
   have HN:=aa hn;clear hn;gi_wp2_with fail
   go_end0
   have hfin:=hJk.out;rw[List.take_of_length_le (by rw[HLN.out];exact Nat.le_refl _)] at hfin;exact⟨⟨_,rfl⟩,hfin⟩
theorem gZ {F:Fld} {c:Cll} (hF:F.check=0) (h:dP F c=0) :
 (0≤c.limit∧c.limit≤1000)∧(0≤c.fr∧c.fr≤1000)∧(c.kind=1∨c.kind=2∨c.kind=5→(-100000≤c.sz∧c.sz≤100000)∧0≤c.er∧c.er≤100000)∧(c.kind=2∨c.kind=4→0≤c.other∧c.other≤1000)∧(c.kind=3∨c.kind=5→0≤c.tt∧c.tt≤1000)∧(c.kind=4→c.fr<c.tt∧c.tt≤1000) ∧
 (c.kind=3→aY F c.fr=true∧aY F c.tt=true∧∃lo hi,gV F c=(some (lo,hi),0))∧(c.kind=1∨c.kind=2∨c.kind=3∨c.kind=4∨c.kind=5):=by
 have hl:=(bb hF).2.1;have hs:=(bb hF).1;unfold dP at h
 have hr:cA F c=true:=by
  cases q:cA F c
  ·rw[q,if_pos rfl] at h;omega
  ·rfl
 rw[if_neg (by rw[hr];simp)] at h
 have h3:c.kind=3→∃lo hi,gV F c=(some (lo,hi),0):=fun k=>by
  rw[if_neg (by omega)] at h
  by_cases d:eN F.vrs c.crs.year=none
  ·rw[if_pos d] at h;omega
  ·rw[if_neg d] at h
   by_cases e:(gV F c).2≠0
   ·rw[if_pos e] at h;exact absurd h e
   ·rw[if_neg e] at h
    cases q:(gV F c).1 with
    | none=>rw[q,if_pos rfl] at h;omega
    | some p=>exact⟨p.1,p.2,Prod.ext q (by simpa using e)⟩
 unfold cA at hr
 by_cases k1:c.kind=1
 ·rw[if_pos k1] at hr
  unfold jQ dQ at hr;simp only[Bool.and_eq_true,gh,fw,dZ] at hr;exact⟨by omega,by omega,fun _=>by omega,fun q=>by omega,fun q=>by omega,fun q=>by omega,fun q=>by omega,.inl k1⟩
 ·rw[if_neg k1] at hr
  by_cases k2:c.kind=2
  ·rw[if_pos k2] at hr
   unfold jN dQ at hr;simp only[Bool.and_eq_true,gh,fw,dZ] at hr;exact⟨by omega,by omega,fun _=>by omega,fun q=>by omega,fun q=>by omega,fun q=>by omega,fun q=>by omega,.inr (.inl k2)⟩
  ·rw[if_neg k2] at hr
   by_cases k3:c.kind=3
   ·rw[if_pos k3] at hr
    unfold gB at hr;simp only[Bool.and_eq_true] at hr;have a1:=hr.1.1.2.1;have a2:=hr.1.1.2.2;have a0:=hr.1.1.1.2;have b1:=fw.1 a1;have b2:=fw.1 a2;have b0:=gh.1 a0;exact⟨by omega,by omega,fun q=>by omega,fun q=>by omega,fun q=>by omega,fun q=>by omega,fun q=>⟨a1,a2,h3 q⟩,.inr (.inr (.inl k3))⟩
   ·rw[if_neg k3] at hr
    by_cases k4:c.kind=4
    ·rw[if_pos k4] at hr
     unfold jJ at hr;simp only[Bool.and_eq_true,gh,fw,decide_eq_true_eq] at hr;exact⟨by omega,by omega,fun q=>by omega,fun q=>by omega,fun q=>by omega,fun q=>by omega,fun q=>by omega,.inr (.inr (.inr (.inl k4)))⟩
    ·rw[if_neg k4] at hr
     by_cases k5:c.kind=5
     ·rw[if_pos k5] at hr
      unfold kd dQ at hr;simp only[Bool.and_eq_true,gh,fw,dZ] at hr;exact⟨by omega,by omega,fun _=>by omega,fun q=>by omega,fun q=>by omega,fun q=>by omega,fun q=>by omega,.inr (.inr (.inr (.inr k5)))⟩
     ·rw[if_neg k5] at hr;cases hr
theorem xG (l b:Nat) (Fix:Nat→Prop) (fb:Fix b) (W:World) (x:FV) (F:Fld) (c:Cll) (hF:F.check=0) (hc:dP F c=0) (hf:FldAt W x F)
 (hb:W.heap[b]?=some (cK x F c)) (J:List (Int×Int×Int×Int)→World→Prop) (hJ:AbidesFrom W.heap.size J)
 (hY:∀pre y W1,J pre W1→pre.length<(br F c).length→YieldAt Fence.wide 6 prog l #[gy y] W1 fun e W'=>e=.returned (.bool true)∧J (pre++[y]) W'∧KeepsB Fix W1 W') (h0:J [] W) :
 CallsIn Fence.wide 7 prog 296 #[.func (.yield l) #[] #[],.pointer (some ⟨b,0,none⟩)] W fun e W'=>(∃v,e=.returned v)∧∃ys,ys=br F c∧J ys W':=by
 have hs:=(bb hF).1;obtain⟨n1,n2,n3,n4,n5,n6,n7,n8⟩:=gZ hF hc
 rcases n8 with k|k|k|k|k
 ·exact yc l b Fix fb W x F c k (by omega) n1 n2 (n3 (.inl k)).1 (n3 (.inl k)).2 hb J hJ hY h0
 ·exact xh l b Fix fb W x F c k (by omega) n1 n2 (n4 (.inl k)) (n3 (.inr (.inl k))).1 (n3 (.inr (.inl k))).2 hb J hJ hY h0
 ·obtain⟨a1,a2,lo,hi,a3⟩:=n7 k
  exact xU l b Fix fb W x F c k (by omega) n1 n2 (n5 (.inl k)) hF hf a1 a2 a3 hb J hJ hY h0
 ·exact xT l b Fix fb W x F c k (by omega) n1 n2 (n6 k) (n4 (.inr k)) hb J hJ hY h0
 ·exact xk l b Fix fb W x F c k (by omega) n1 n2 (n5 (.inr k)) (n3 (.inr (.inr k))).1 (n3 (.inr (.inr k))).2 hb J hJ hY h0
def xp {α:Type} (B:Nat) (Kp:World→World→Prop) (I:List α→World→Prop) (s:List α) (W:World):Exit→Act→World→Prop:=fun e _ W'=>e=.normal∧KeepsFrom B W W'∧Kp W W'∧I s W'
theorem rT {α:Type} {P:Program} {g:Operand} {ps:Array Tmp} {assign body:Code} {Q:Exit→Act→World→Prop} {a:Act} {w:World} {gf:Nat} {rv:Value}
 (hg:a.eval g=.func (.func gf) #[] #[rv]) (eg:∀args w,(callFunc gf args).run P w=.ok (.enter gf args) w)
 (encs:α→Array Value) (hps:∀x,(encs x).size=ps.size) (S:List α→Prop) (N:Nat) (Kp:World→World→Prop) (hKt:∀{A B C:World},Kp A B→Kp B C→Kp A C)
 (hKb:∀(W:World) (l:Nat) (o o':Obj),w.heap.size≤l→W.heap[l]?=some o→o.isCells=false→o.isWalk=false→Kp W (W.putObj l o'))
 (hseq:∀(l:Nat) (J:List α→World→Prop) (W:World),Below w.heap.size w W→AbidesFrom W.heap.size J →
  (∀pre x W1,J pre W1→pre.length<N→YieldAt Fence.wide 6 P l (encs x) W1 fun e W'=>e=.returned (.bool true)∧J (pre++[x]) W'∧Kp W1 W')→J [] W →
  CallsIn Fence.wide 7 P gf #[.func (.yield l) #[] #[],rv] W fun e W'=>(∃v,e=.returned v)∧∃ys,S ys∧J ys W')
 (I:List α→World→Prop) (hI:OwnFrom w.heap.size I) (h0:I [] w) (Ax:α→Act→World→Prop) (hAx:∀x a',OwnFrom w.heap.size (fun(_:Unit) W=>Ax x a' W))
 (hassign:∀(l:Nat) (pre:List α) (x:α) (W:World) (K:Act→World→Prop),I pre W→(∀a' W',KeepsFrom w.heap.size W W'→Kp W W'→I pre W'→Ax x a' W'→K a' W') →
  assign.wpIn (Fence.wide.inRound l) 6 P (Exit.then K (fun _ _ _=>False)) { tmps:=(ps.zip (encs x)).foldl (fun t (p,v)=>t.setIfInBounds p v) a.tmps,defers:=[] } W)
 (hbody:∀(l:Nat) (pre:List α) (x:α) (a':Act) (W:World),I pre W→Ax x a' W→pre.length<N→body.wpIn (Fence.wide.inRound l) 6 P (xp w.heap.size Kp I (pre++[x]) W) a' W)
 (hdone:∀(D:Nat) (xs:List α) (W:World),w.heap.size≤D→S xs→I xs W→W.heap[D]?=some (.deferred (some []))→Q .normal { a with defers:={ target:=.collected D,args:=#[] }::a.defers } W) :
 (Code.rangeFunc g ps assign body).wp P Q a w:=by
 refine(wpIn_wide (n:=8)).1 (wpIn_rangeFunc ?_);intro fn hfn
 obtain⟨rec,hrec⟩:∃rec:LoopState→Loop,rec=fun st=>{ state:=st,pending:=none,fn,tmps:=a.tmps,params:=ps,assign,body,defers:=w.heap.size }:=⟨_,rfl⟩
 obtain⟨W1,hW1⟩:=ag ((w.alloc (.deferred (some []))).alloc (.loop (rec .ready)))
 have hL1:W1.heap[w.heap.size+1]?=some (.loop (rec .ready)):=by
  rw[←hW1];have:=World.alloc_heap_new (w.alloc (.deferred (some []))) (.loop (rec .ready));rwa [World.size_alloc] at this
 have hD1:W1.heap[w.heap.size]?=some (.deferred (some [])):=by
  rw[←hW1];exact(Below.heap_alloc _ _ _ (by simp)).trans (World.alloc_heap_new w _)
 have hI1:I [] W1:=by rw[←hW1];exact hI.alloc _ (hI.alloc _ h0)
 have hb1:Below w.heap.size w W1:=by rw[←hW1];exact((Below.refl _ w).alloc (Nat.le_refl _) _).alloc (by simp) _
 refine⟨w.heap.size+1,[{ target:=.collected w.heap.size,args:=#[] }],W1,{ target:=.fn (.func gf) #[rv],args:=#[.func (.yield (w.heap.size+1)) #[] #[]] },W1,gf,
  #[.func (.yield (w.heap.size+1)) #[] #[],rv],W1,?_,?_,?_,?_,fun _=>by omega,?_⟩
 ·rw[←hW1,hrec];exact run_enterLoop_outer _ _ _ _ _
 ·simp only[resolve,hg]
  simp[go_sem]
 ·intro f' hf';trivial
 ·simp[invoke,go_sem,eg]
 ·have hnw:∀{A:World} {row:Option Nat},(∀r,row=some r→W1.heap.size≤r∧∃o:Obj,A.heap[r]?=some o∧o.isWalk=true)→(∀r,row=some r→w.heap.size≤r∧∃o:Obj,A.heap[r]?=some o∧o.isCells=false) :=
   fun hr r e=>by obtain⟨hB,o,ho,hw⟩:=hr r e;exact⟨by rw[←hW1] at hB;simp at hB;omega,o,ho,Obj.not_cells_of_walk hw⟩
  refine(hseq (w.heap.size+1) (fun pre W=>I pre W∧W.heap[w.heap.size+1]?=some (.loop (rec .ready))∧W.heap[w.heap.size]?=some (.deferred (some []))) W1 hb1
   (fun s A B row hs hg' hr=>⟨hI s A B row hs.1 hg' (hnw hr),(grownBy_keeps hg' (fun r e=>(hr r e).2) hs.2.1 rfl).trans hs.2.1,(grownBy_keeps hg' (fun r e=>(hr r e).2) hs.2.2 rfl).trans hs.2.2⟩)
   ?_ ⟨hI1,hL1,hD1⟩).mono ?_
  ·rintro pre x W ⟨hi,hl,hk⟩ hlen
   have hy:=run_yield (P:=P) (args:=encs x) hl (by rw[hrec];exact hps x);rw[hrec] at hy;refine⟨fn,_,assign,body,hy,roundIn_of_wpIn hfn (hassign _ pre x W _ hi ?_)⟩;clear hy;intro a' Wa hkfa hkpa hia hax;have hla:=hkfa.same _ _ (by omega) hl rfl;have hka:=hkfa.same _ _ (Nat.le_refl _) hk rfl;have hlt:w.heap.size+1<Wa.heap.size:=(Array.getElem?_eq_some_iff.1 hla).1;obtain⟨Wb,hWb⟩:=ag (Wa.putObj (w.heap.size+1) (.loop { rec .ready with state:=.busy }));refine⟨Wb,by rw[←hWb];exact run_beginRound hla (by rw[hrec]),?_⟩
   have hlb:Wb.heap[w.heap.size+1]?=some (.loop { rec .ready with state:=.busy }):=by rw[←hWb];exact World.putObj_heap_same hlt
   have hkb:Wb.heap[w.heap.size]?=some (.deferred (some [])):=by rw[←hWb];exact(World.putObj_heap_other (by omega)).trans hka
   have hwb:Kp Wa Wb:=by rw[←hWb];exact hKb _ _ _ _ (by omega) hla rfl rfl
   have hib:I pre Wb:=by rw[←hWb];exact hI.putObj _ hia (by omega) hla rfl
   have haxb:Ax x a' Wb:=by rw[←hWb];exact(hAx x a').putObj (s:=()) _ hax (by omega) hla rfl
   refine wpIn_mono (hbody _ pre x a' Wb hib haxb hlen) ?_;rintro e a3 W3 ⟨rfl,hk3,hkp3,hi3⟩;have hl3:=hk3.same _ _ (by omega) hlb rfl;have hd3:=hk3.same _ _ (Nat.le_refl _) hkb rfl;have hr:=run_endRound (P:=P) none hl3;rw[hrec] at hr hl3;refine⟨_,_,hr,rfl,⟨hI.putObj _ hi3 (by omega) hl3 rfl,?_,(World.putObj_heap_other (by omega)).trans hd3⟩,hKt hkpa (hKt (hKt hwb hkp3) (hKb _ _ _ _ (by omega) hl3 rfl rfl))⟩;rw[hrec];exact World.putObj_heap_same (Array.getElem?_eq_some_iff.1 hl3).1
  ·rintro e W2 ⟨⟨v,rfl⟩,xs,hS,hi,hl,hk⟩
   exact⟨none,_,by have:=run_endLoop (P:=P) hl (by rw[hrec];simp);rw[hrec] at this;exact this,hdone _ xs _ (Nat.le_refl _) hS (hI.putObj _ hi (by omega) hl rfl) ((World.putObj_heap_other (by omega)).trans hk)⟩
def AX (u v:Value):Prop:=∀q,u.ownBlock=some q→v.ownBlock≠some q
theorem vE {w:World} {base:Nat} {v:Value} {l:List Int} (hown:w.ownsRow base 3 1 v l.length (ay l)) (x:Int) (hx:l.length≤100000) (hb:base≤w.heap.size) :
 ∃v' w',(Builtin.append_ #[52,52] 52 #[v,.slice (some ⟨w.heap.size,0,none⟩) 1 1]).run prog (w.alloc (.cells #[.int .i64 x] 3))=.ok v' w'∧w'.ownsRow base 3 1 v' (l++[x]).length (ay (l++[x]))∧Below base w w' ∧
  (∀(u:Value) (lu:List Int),w.ownsRow base 3 1 u lu.length (ay lu)→AX u v→w'.ownsRow base 3 1 u lu.length (ay lu)∧AX u v'):=by
 have own3:=hown.alloc (.cells #[.int .i64 x] 3);obtain⟨i0,hi,hz0,hz1,hz2⟩:=info_parts zl
 have hnews:∀j u,[Value.int .i64 x][j]?=some u→(w.alloc (.cells #[.int .i64 x] 3)).cell? ((⟨w.heap.size,0,none⟩:Addr).add j)=some u:=by
  intro j u hj;rw[show((⟨w.heap.size,0,none⟩:Addr).add j)=⟨w.heap.size,0+j,none⟩ from by unfold Addr.add;split<;>simp_all];rw[cell_of_row _ _ _ _ _ _ (heap_alloc_new w (.cells #[.int .i64 x] 3)),Nat.zero_add];simpa using hj
 obtain⟨v',w',hrun,h2,h3,_,h5⟩:=run_append_own_at (P:=prog) (w.alloc (.cells #[.int .i64 x] 3)) base 52 52 3 i0 _ 1 8 underlying52 hi hz0 hz1 hz2 rfl (by decide) v _ _ own3 ⟨w.heap.size,0,none⟩ 1 1 [.int .i64 x] rfl hnews (by intro u hu;simp at hu;subst hu;rfl) (by unfold maxLen;omega) (by omega) (by simp;omega);refine⟨v',w',hrun,by simpa [ay] using h2,?_,fun u lu hu hap=>⟨(hu.alloc _).kept h3 ?_,fun q hq e=>?_⟩⟩
 ·refine(((Below.refl base w).alloc hb _).grown h3 (by simp;omega) (fun q e=>?_))
  exact(hown.lt q e).1
 ·cases hq:u.ownBlock with
  | none=>exact .inl rfl
  | some q=>exact .inr (fun e=>hap q hq e.symm)
 ·rcases h5 with h5|h5
  ·rw[h5] at e;exact hap q hq e
  ·rw[h5] at e
   have h6:=(hu.lt q hq).2;simp only[Option.some.injEq] at e
   have h7:(w.alloc (.cells #[.int .i64 x] 3)).heap.size=w.heap.size+1:=by simp
   omega
attribute [local go_sem] Oper.semAt_some
def BI (s:Int×Int×Int×Int):Array Value:=#[.int .i64 s.1,.int .i64 s.2.1,.int .i64 s.2.2.1,.int .i64 s.2.2.2]
def rr (r:Int) (s:Int×Int×Int×Int):List Bd:=[⟨s.1,s.2.1,s.2.2.2,r⟩,⟨s.2.1,s.1,wrap64 (-s.2.2.1),r⟩]
def BQ (r:Int) (s:Int×Int×Int×Int):List Bd:=eG s.1 s.2.1 s.2.2.1 s.2.2.2 r
theorem z8 (r:Int) (l:List (Int×Int×Int×Int)):(l.flatMap (rr r)).length=2*l.length:=by
 induction l with
 | nil=>rfl
 | cons a l ih=>rw[List.flatMap_cons,List.length_append,ih,List.length_cons];show 2+_=_;omega
theorem xF {F:Fld} {c:Cll} (hF:F.check=0) (hc:dP F c=0):(br F c).length≤1001:=by
 obtain⟨n1,n2,n3,n4,n5,n6,n7,n8⟩:=gZ hF hc;unfold br
 split
 ·simp
 ·split
  ·simp
  ·split
   ·simp
   ·split
    ·rename_i k
     have:=n6 k
     simp only[List.length_map,List.length_range];omega
    ·split<;>simp
theorem yz {F:Fld} {c:Cll} (hF:F.check=0) (hc:dP F c=0):∀s∈br F c,-1000000≤s.2.2.1∧s.2.2.1≤1000000:=by
 obtain⟨n1,n2,n3,n4,n5,n6,n7,n8⟩:=gZ hF hc;intro s hs;unfold br at hs
 split at hs
 ·rename_i k;have:=n3 (.inl k);rw[List.mem_singleton] at hs;subst hs;dsimp only;omega
 ·split at hs
  ·rename_i k;have:=n3 (.inr (.inl k));rw[List.mem_singleton] at hs;subst hs;dsimp only;omega
  ·split at hs
   ·rename_i k
    obtain⟨a,b,lo,hi,e⟩:=n7 k
    rw[List.mem_singleton] at hs;subst hs
    rw[e];have:=zJ (l:=F.vrs) (c:=c.crs) (dx:=oX F c) (a:=lo) (b:=hi) (by have:=congrArg Prod.fst e;exact this);dsimp only[Option.getD];omega
   ·split at hs
    ·obtain⟨i,_,rfl⟩:=List.mem_map.1 hs;dsimp only;omega
    ·split at hs
     ·rename_i k;have:=n3 (.inr (.inr k));rw[List.mem_singleton] at hs;subst hs;dsimp only;omega
     ·cases hs
theorem yo {z:Int} (h:-1000000≤z) (h2:z≤1000000):wrap64 (-z)=-z:=by unfold wrap64;omega
theorem AC (r:Int) (l:List (Int×Int×Int×Int)) (h:∀s∈l,-1000000≤s.2.2.1∧s.2.2.1≤1000000):l.flatMap (BQ r)=l.flatMap (rr r):=by
 induction l with
 | nil=>rw[List.flatMap_nil,List.flatMap_nil]
 | cons s l ih =>
   have hs:=h s (List.mem_cons_self ..);have e:BQ r s=rr r s:=congrArg (fun z=>[(⟨s.1,s.2.1,s.2.2.2,r⟩:Bd),⟨s.2.1,s.1,z,r⟩]) (yo hs.1 hs.2).symm;rw[List.flatMap_cons,List.flatMap_cons,e,ih (fun x hx=>h x (List.mem_cons_of_mem _ hx))]
theorem oD {W wa:World} {tmp:Obj} {v nv:Value} {B k base n:Nat} {cs:Array Value} {t:TypeId} {f:Nat×Nat} {xs:List Value} (h:W.ownsRow base 65 4 v n xs) (hg:(W.alloc tmp).grownBy wa v.ownBlock) (hk:W.heap[k]?=some (.cells cs t f)) (ht:t≠65) (hB:k≠B):(wa.setCell ⟨B,0,none⟩ nv).heap[k]?=W.heap[k]?:=by
 rw[heap_setCell_other _ _ _ _ hB];have hlt:=lt_of_block hk;rw[hg.block k (by simp;omega) ?_]
 ·exact Below.heap_alloc _ _ _ hlt
 ·intro e
  rcases h.2 with ⟨rfl,_⟩|⟨g,cap,cur,rfl,_,hgb,_⟩
  ·cases e
  ·simp only[Value.ownBlock,Option.some.injEq] at e
   subst e;rw[hk] at hgb;cases hgb;exact ht rfl
theorem tC (w:World) (x:FV) (F:Fld) (c:Cll) (r:Int) (hF:F.check=0) (hc:dP F c=0) (hf:FldAt w x F) :
 Calls prog 226 #[.agg (bT x F c),.int .i64 r] w fun e w'=>(∃v,e=.returned v∧w'.ownsRow w.heap.size 65 4 v (eo F c r).length (bh (eo F c r)))∧Below w.heap.size w w':=by
 have hbs:eo F c r=(br F c).flatMap (BQ r):=yE F c r;have hlen:=xF hF hc;have hlow:=yz hF hc;have hwb:=AC r (br F c) hlow;rw[hbs,hwb];clear hwb hlow;obtain⟨i0,hi,hz0,hz1,hz2⟩:=info_parts lR;have HI0:=aa hi;have HZ0:=aa hz0;have HZ1:=aa hz1;have HZ2:=aa hz2;obtain⟨w1,hw1⟩:∃W,W=((w.alloc (.cells (bT x F c) 245)).alloc (.cells #[.int .i64 r] 3)).alloc (.cells #[.slice none 0 0] 59):=⟨_,rfl⟩;have HS1:=aa (show w1.heap.size=w.heap.size+3 by rw[hw1];simp);have HB1:=aa (show Below w.heap.size w w1 by rw[hw1];exact((aD).alloc (by simp) _).alloc (by simp;omega) _)
 have HBX:=aa (show Boxed w1 (w.heap.size+2) 59 (.slice none 0 0) by
  rw[hw1];have:=Boxed.new ((w.alloc (.cells (bT x F c) 245)).alloc (.cells #[.int .i64 r] 3)) 59 (.slice none 0 0)
  simpa using this)
 have HX1:=aa (show Kb [(w.heap.size+1,.cells #[.int .i64 r] 3),(w.heap.size,cK x F c)] w1 by
  rw[hw1];have:=Kb.next ((Below.refl _ ((w.alloc (.cells (bT x F c) 245)).alloc (.cells #[.int .i64 r] 3))).alloc (Nat.le_refl _) (.cells #[.slice none 0 0] 59)) (Kb.alloc (o:=.cells #[.int .i64 r] 3) (Kb.alloc (W:=w) (o:=.cells (bT x F c) 245) (L:=[]) trivial))
  simpa [cK] using this)
 have HW1:=aa hw1;have HSP:=aa (fun W=>xv W x F c);have HF:=aa hf;obtain⟨L,hL⟩:=ag (br F c);rw[hL] at hlen ⊢;have HLN:=aa hL;clear hi hz0 hz1 hz2 hw1 hf hbs hL;refine(callsIn_wide (n:=8)).1 (callsIn_of_wp_marks func226 rfl trivial (wpIn_wide.2 ?_) rfl);simp only[ntmps226,List.size_toArray,List.length_cons,List.length_nil,Nat.reduceAdd,Nat.reduceSub,Array.replicate_succ,Array.replicate_zero,List.push_toArray,List.append_toArray,List.nil_append,List.cons_append];go_upto_region 2 with fail;rw[←HW1.out];clear HW1;refine wp_region_list ?_;refine ah rfl 245 _ rfl _ rfl w.heap.size rfl 245 _ (0,0) _ HX1.out.2.1 underlying245 rfl (by kernel_rfl) ?_;simp only[Act.put,sA,sB,sC];go_wp2_with fail;refine(HSP.out _).mono ?_;rintro e w2 ⟨rfl,hw2⟩;have HS2:=aa (show w2.heap.size=w.heap.size+4 by rw[hw2];have:=HS1.out;simp;omega)
 have hb2:Below w1.heap.size w1 w2:=by rw[hw2];exact aD
 have HB2:=bU HB1 hb2;have HBX2:=aa (show Boxed w2 (w.heap.size+2) 59 (.slice none 0 0) by rw[hw2];exact HBX.out.alloc _);have HX2:=aa (HX1.out.next hb2);have HD2:=aa (show w2.heap[w1.heap.size]?=some (cK x F c) by rw[hw2];exact heap_alloc_new _ _);clear hw2 hb2 HBX HX1 HSP;go_wp2_with fail;have HSPN:=aa (fun(l:Nat) W (hb:Below w2.heap.size w2 W)=>xG l w1.heap.size (fun k=>k=w1.heap.size) rfl W x F c hF hc (HF.out.below (bB HB2.out hb)) (ac hb (lt_of_block HD2.out) HD2.out));rw[HLN.out] at HSPN;have HL1:w1.heap.size=w.heap.size+3:=HS1.out;obtain⟨IX,hIX⟩:∃IX:List (Int×Int×Int×Int)→World→Prop,(fun pre W=>(∃v,Boxed W (w.heap.size+1+1) 59 v∧W.ownsRow w.heap.size 65 4 v (pre.flatMap (rr r)).length (bh (pre.flatMap (rr r)))∧True)∧Below w.heap.size w W∧w.heap.size+4≤W.heap.size∧Kb [(w.heap.size+1,.cells #[.int .i64 r] 3),(w1.heap.size,cK x F c)] W)=IX:=⟨_,rfl⟩;have HC:=aa hc;clear hc
 refine rT (gf:=296) (rv:=.pointer (some ⟨w1.heap.size,0,none⟩)) rfl (enters_of func296 (by kernel_rfl) rfl) (fun x=>#[gy x]) (fun x=>rfl) (fun ys=>ys=L) L.length (KeepsB (fun k=>k=w1.heap.size)) (fun h k=>h.trans k) ?kb ?seq
  IX ?own ?start (fun y a' W=>∃g,a'={ tmps:=#[.agg (bT x F c),.int .i64 r,.pointer (some ⟨w.heap.size,0,none⟩),.pointer (some ⟨w.heap.size+1,0,none⟩),.slice none 0 0,.pointer (some ⟨w.heap.size+1+1,0,none⟩),.pointer (some ⟨g,0,none⟩),.agg (bT x F c),.func (.func 296) #[] #[.pointer (some ⟨w1.heap.size,0,none⟩)],gy y,undef,undef,undef,undef,undef,undef,undef,undef,undef,undef,undef,undef,undef,undef,undef,undef,undef,undef,undef,undef,undef],defers:=[] }∧W.heap[g]?=some (.cells (BI y) 293 (0,0))∧w.heap.size+4≤g) ?ax ?assign ?body ?done
 case kb =>
  intro W l o o' hle ho hi;have:=HS2.out
  exact fun _=>⟨by simp,fun b hb=>by subst hb;exact World.putObj_heap_other (by omega)⟩
 case seq =>
  intro l J W hb hJ hY h0;exact HSPN.out l W hb J hJ hY h0
 case own =>
  rw[←hIX];rintro pre X Y row ⟨h1,h2,h3,h4⟩ hg hr;have hs2:=HS2.out;refine⟨holdsRow_own w.heap.size (w.heap.size+1+1) 59 65 4 (fun p:List (Int×Int×Int×Int)=>(p.flatMap (rr r)).length) (fun p=>bh (p.flatMap (rr r))) (fun _ _=>True) pre X Y row h1 hg (fun r e=>(hr r e).2),h2.grown hg (by omega) (fun k e=>by have:=(hr k e).1;omega),Nat.le_trans h3 hg.size,?_⟩;refine Kb.away (fun p hp=>hg.block _ ?_ ?_) h4
  ·simp at hp;rcases hp with rfl|rfl<;>dsimp only<;>omega
  ·intro e;have:=(hr _ e.symm).1;simp at hp;rcases hp with rfl|rfl<;>dsimp only at*<;> omega
 case start =>
  rw[←hIX];exact⟨⟨_,HBX2.out,World.ownsRow_nil _ _ _ _,trivial⟩,HB2.out,by rw[HS2.out];omega,HX2.out.1,HD2.out,trivial⟩
 case ax =>
  rintro y a' _ X Y row ⟨g,h1,h2,h3⟩ hg hr;exact⟨g,h1,(grownBy_keeps_cells hg (fun r e=>(hr r e).2) h2 rfl).trans h2,h3⟩
 case assign =>
  intro l pre y W K hI hK;have hI2:=hI;rw[←hIX] at hI2;have hsz:=hI2.2.2.1;obtain⟨WA,hWA⟩:∃WA,WA=W.alloc (.cells (BI y) 293):=⟨_,rfl⟩
  have hba:Below W.heap.size W WA:=by rw[hWA];exact aD
  have hIA:IX pre WA:=by
   rw[←hIX];obtain⟨⟨v,g1,g2,g3⟩,g4,g5,g6⟩:=hI2;exact⟨⟨v,by rw[hWA];exact g1.alloc _,by rw[hWA];exact g2.alloc _,g3⟩,bB g4 hba,Nat.le_trans g5 hba.size,g6.next hba⟩
  have hK2:=hK _ WA (by rw[hWA];exact(KeepsOthers.alloc W _).from _) (KeepsB.below hba (fun b hb=>by subst hb;omega)) hIA ⟨W.heap.size,rfl,by rw[hWA];exact heap_alloc_new _ _,hsz⟩;clear hK;rw[hWA] at hK2
  unfold gy BI at *
  simp only[rI,rH,rJ,List.zip_toArray,List.zip_cons_cons,List.zip_nil_right,List.foldl_toArray,List.foldl_cons,List.foldl_nil] at hK2 ⊢;gi_wp2;exact hK2
 case body =>
  rintro l pre y a' W hIW ⟨g,rfl,hg,hgl⟩ hlen2;rw[←hIX] at hIW;obtain⟨⟨v,hv,hrow,_⟩,hbl,hsz,hK⟩:=hIW;have c0:=hv.cell;have kr:=ak hK.1;have kg:=ak hg;unfold BI at kg;have HV:=aa hv;have HROW:=aa hrow;have HBL:=aa hbl;have HSZ:=aa hsz;have HKK:=aa hK
  have hnl:(pre.flatMap (rr r)).length≤2002:=by rw[z8];omega
  obtain⟨nl,hnl2⟩:=ag ((pre.flatMap (rr r)).length);rw[hnl2] at HROW hnl;obtain⟨XS,hXS⟩:=ag (bh (pre.flatMap (rr r)));rw[hXS] at HROW;have HNL:=aa hnl2;have HXS:=aa hXS;clear hnl2 hXS;have own3:=aa (HROW.out.alloc (.cells (bh (rr r y)).toArray 65))
  have NEW:=aa (show ∀(j:Nat) (u:Value),(bh (rr r y))[j]?=some u→(W.alloc (.cells (bh (rr r y)).toArray 65)).cell? ((⟨W.heap.size,0,none⟩:Addr).add j)=some u from fun j u hj=>by
   rw[show((⟨W.heap.size,0,none⟩:Addr).add j)=⟨W.heap.size,0+j,none⟩ from by unfold Addr.add;split<;>simp_all];rw[cell_of_row _ _ _ _ _ _ (heap_alloc_new W (.cells (bh (rr r y)).toArray 65)),Nat.zero_add]
   simpa using hj)
  clear hv hrow hbl hsz hK hg;unfold bh rr Bd.cells at own3 NEW;simp only[List.flatMap_cons,List.flatMap_nil,List.append_nil,List.cons_append,List.nil_append] at own3 NEW;gi_wp2_with (gi_at_builtin;refine wpListIn_append_own _ rfl (.tmp 10) (.tmp 28) 59 rfl w.heap.size 65 i0 _ 4 32 underlying59 HI0.out HZ0.out HZ1.out HZ2.out rfl (by decide) v nl XS rfl own3.out ⟨W.heap.size,0,none⟩ 2 2 [.int .i64 y.1,.int .i64 y.2.1,.int .i64 y.2.2.2,.int .i64 r,.int .i64 y.2.1,.int .i64 y.1,.int .i64 (wrap64 (-y.2.2.1)),.int .i64 r] rfl rfl NEW.out (by intro u hu;simp at hu;rcases hu with rfl|rfl|rfl|rfl|rfl|rfl|rfl|rfl<;>rfl) (by unfold maxLen;omega) (by omega) (by simp;have:=HSZ.out;omega) ?_;intro v' wa hown' hgrow _;obtain⟨g',cp',rfl⟩:=ownsRow_succ hown';have hA:=Boxed.appended HV.out (by decide) HROW.out (by have:=HSZ.out;omega) (by omega) hown' hgrow;have cb:=hA.1.cell;have fb:=hA.1.frozen;have HGR:=aa hgrow;have HA:=aa hA;clear hA hown' hgrow c0);have k1:=oD (nv:=.slice (some ⟨g',0,none⟩) (nl+2) cp') (B:=w.heap.size+1+1) HROW.out HGR.out HKK.out.1 (by decide) (by omega);have k2:=oD (nv:=.slice (some ⟨g',0,none⟩) (nl+2) cp') (B:=w.heap.size+1+1) HROW.out HGR.out HKK.out.2.1 (by decide) (by omega);refine⟨rfl,HA.out.2.2.2.1.from _,⟨HA.out.2.2.2.2.size,fun b hb=>by subst hb;exact k2⟩,?_⟩;rw[←hIX];refine⟨⟨_,HA.out.2.1,?_,trivial⟩,HBL.out.trans HA.out.2.2.2.2,Nat.le_trans HSZ.out HA.out.2.2.2.2.size,k1.trans HKK.out.1,k2.trans HKK.out.2.1,trivial⟩;have h3:=HA.out.2.2.1
  have e1:((pre++[y]).flatMap (rr r)).length=nl+2:=by rw[←HNL.out,List.flatMap_append,List.length_append];simp[rr]
  have e2:bh ((pre++[y]).flatMap (rr r))=XS++[.int .i64 y.1,.int .i64 y.2.1,.int .i64 y.2.2.2,.int .i64 r,.int .i64 y.2.1,.int .i64 y.1,.int .i64 (wrap64 (-y.2.2.1)),.int .i64 r]:=by rw[←HXS.out,List.flatMap_append,dI];simp[rr,bh,Bd.cells]
  rw[e1,e2];exact h3
 case done =>
  rintro D ys W hD hys hI2 hKD;subst hys;rw[←hIX] at hI2;obtain⟨⟨v,hv,hrow,_⟩,hbl,hsz,_⟩:=hI2;have c0:=hv.cell;have HROW:=aa hrow;have HBL:=aa hbl;clear hv hrow hbl;have hsz2:=HS2.out;go_wp2_with fail;refine fJ (B:=w.heap.size) _ W ⟨[D],rfl,by simp,fun D' hm=>by rw[List.mem_singleton] at hm;subst hm;exact⟨by omega,hKD⟩⟩ (fun W' hk'=>?_);refine⟨_,results_tmp results226 _ _ _,⟨v,rfl,?_⟩,HBL.out.trans hk'.below⟩;have h:=HROW.out
  rcases h with ⟨h1,h2|⟨gb,cp,cur,e1,e2,hh,e3⟩⟩
  ·exact⟨h1,.inl h2⟩
  ·exact⟨h1,.inr ⟨gb,cp,cur,e1,e2,hk'.cells _ _ _ _ hh,e3⟩⟩
def ic (F:Fld) (c:Cll) (r:Int):List Bd×Int:=if dp F c≠0 then([],dp F c) else if bm r 0 1000000=false then([],1) else(eo F c r,0)
theorem gC {F:Fld} {c:Cll} (q:dp F c=0):F.check=0∧dP F c=0:=by
 unfold dp at q
 by_cases h:F.check=0
 ·rw[if_neg (by omega)] at q;exact⟨h,q⟩
 ·rw[if_pos h] at q;exact absurd q h
theorem fI (w:World) (base:Nat):w.ownsRow base 65 4 (.slice none 0 0) ([]:List Bd).length (bh []):=World.ownsRow_nil _ _ _ _
theorem tz (w:World) (x:FV) (F:Fld) (c:Cll) (r:Int) (h:FldAt w x F) (hk:0≤c.kind∧c.kind≤255) :
 Calls prog 148 #[x.val F,c.val,.int .i64 r] w fun e w'=>(∃v,e=.returned (.tuple #[v,.int .i64 (ic F c r).2])∧w'.ownsRow w.heap.size 65 4 v (ic F c r).1.length (bh (ic F c r).1))∧Below w.heap.size w w':=by
 obtain⟨⟨RL,RE⟩,hR⟩:=ag (ic F c r);rw[hR];unfold ic at hR;obtain⟨w0,hw0⟩:∃W,W=(w.alloc (.cells (x.arr F) 27)).alloc (.cells c.vals 48):=⟨_,rfl⟩;have B0:=aa (show Below w.heap.size w w0 by rw[hw0];exact(aD).alloc (by simp) _)
 have X0:=aa (show Kb [(w.heap.size+1,.cells c.vals 48),(w.heap.size,.cells (x.arr F) 27)] w0 by
  rw[hw0];have:=Kb.alloc (o:=.cells c.vals 48) (Kb.alloc (W:=w) (o:=.cells (x.arr F) 27) (L:=[]) trivial)
  simpa using this)
 have HCF:=aa (jA w0 x F c (h.below B0.out) hk);have HB:=aa (fun(q:dp F c=0) W (hb:Below w.heap.size w W)=>tC W x F c r (gC q).1 (gC q).2 (h.below hb));have HIN:=aa (fun W=>gF r 0 1000000 W);obtain⟨z,hz⟩:=ag (dp F c);rw[hz] at HCF hR HB;obtain⟨p,hp⟩:=ag (bm r 0 1000000);rw[hp] at hR HIN;clear hz hp h;go_enter func148,ntmps148;go_upto_region 1 with fail;unfold FV.val Cll.val;rw[←hw0];clear hw0;refine wp_region_list ?_;refine ah rfl 27 _ rfl _ rfl w.heap.size rfl 27 _ (0,0) _ X0.out.2.1 underlying27 rfl (by kernel_rfl) ?_;refine ah rfl 48 _ rfl _ rfl (w.heap.size+1) rfl 48 _ (0,0) _ X0.out.1 underlying48 rfl (by kernel_rfl) ?_;simp only[Act.put,sA,sB,sC];go_wp2_with fail;refine HCF.out.mono ?_;rintro e w1 ⟨rfl,hb1⟩;have X1:=aa (X0.out.next hb1);have B1:=bU B0 hb1;clear hb1 HCF X0
 by_cases h0:z=0
 rotate_left
 ·rw[if_pos h0] at hR
  have hzb:(z != 0)=true:=by simpa using h0
  cases hR;clear h0;go_wp2_with fail;go_ret2;exact⟨⟨_,rfl,fI _ _⟩,B1.out⟩
 subst h0;rw[if_neg (by omega)] at hR
 cases p with
 | false =>
   rw[if_pos rfl] at hR;cases hR;go_wp2_with fail;refine(HIN.out _).mono ?_;rintro e w2 ⟨rfl,rfl⟩;go_wp2_with fail;go_ret2;exact⟨⟨_,rfl,fI _ _⟩,B1.out⟩
 | true =>
   rw[if_neg (by simp)] at hR;cases hR;go_wp2_with fail;refine(HIN.out _).mono ?_;rintro e w2 ⟨rfl,rfl⟩;go_upto_region 6 with fail;refine wp_region_list ?_;refine ah rfl 27 _ rfl _ rfl w.heap.size rfl 27 _ (0,0) _ X1.out.2.1 underlying27 rfl (by kernel_rfl) ?_;refine ah rfl 48 _ rfl _ rfl (w.heap.size+1) rfl 48 _ (0,0) _ X1.out.1 underlying48 rfl (by kernel_rfl) ?_;refine bJ rfl _ _ rfl (bT x F c) (by kernel_rfl) ?_;simp only[Act.put,sA,sB,sC];go_wp2_with fail;refine(HB.out trivial _ B1.out).mono ?_;rintro e w3 ⟨⟨v,rfl,hv⟩,hb3⟩;have HV:=aa hv;have HB3:=aa hb3;clear hv hb3;go_wp2_with fail;go_ret2;refine⟨⟨_,rfl,?_⟩,bB B1.out HB3.out⟩;obtain⟨h1,h2|⟨g,cp,cur,e1,e2,e3⟩⟩:=HV.out
   ·exact⟨h1,.inl h2⟩
   ·exact⟨h1,.inr ⟨g,cp,cur,e1,Nat.le_trans B1.out.size e2,e3⟩⟩
end Go.Proofs.YtkhemfnlflbniaaGreatDoor
