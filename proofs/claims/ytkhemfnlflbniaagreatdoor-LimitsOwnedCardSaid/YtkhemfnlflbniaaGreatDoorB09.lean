/- Merged text 9 of the base: C1, C2, C3, C4, C5, C6, C7, C8, Lm1, Lm2, Lm3, Lm4. No conditions beyond those stated. -/
import Derived.Test.YtkhemfnlflbniaaGreatDoorB01
import Derived.Test.YtkhemfnlflbniaaGreatDoorB08
import Derived.Deep.Cut
import Derived.Laws.CopyOwn
import Derived.Test.YtkhemfnlflbniaaGreatDoorB06
import Derived.Test.YtkhemfnlflbniaaGreatDoorB04
import Derived.Deep.QuietTactic
set_option maxRecDepth 100000
set_option maxHeartbeats 8000000
namespace Go.Proofs.YtkhemfnlflbniaaGreatDoor
open Go Go.RowKit Go.Shelf Tryz
theorem jb (d:Int) (_h0:-1000000≤d) (_h1:d≤1000000) (w:World):Calls prog 345 #[.int .i64 d] w fun e w'=>e=.returned (.int .i64 (cz d))∧w=w':=by
 have hb:=ft d
 unfold cz at *
 have e1:(d.tmod 360+360).tmod 360=(d.tmod 360+360)%360:=Int.tmod_eq_emod_of_nonneg (by have:=Int.lt_tmod_of_pos d (b:=360) (by omega);omega)
 rw[e1] at *
 clear e1;have t1:-360<d.tmod 360∧d.tmod 360<360:=⟨by have:=Int.lt_tmod_of_pos d (b:=360) (by omega);omega,Int.tmod_lt_of_pos d (by omega)⟩;go_enter func345,ntmps345;go_wp2_with fail;go_ret;exact⟨rfl,rfl⟩
theorem ip (b:Bool) (w:World):Calls prog 341 #[.bool b] w fun e w'=>e=.returned (.int .i64 (if b=true then 0 else 1))∧w=w':=by
 cases b
 all_goals
  go_enter func341,ntmps341;go_wp2_with fail;go_ret;exact⟨rfl,rfl⟩
theorem lM (a b:Int) (w:World) (ha:-4000000000000000000≤a∧a≤4000000000000000000) (hb0:0<b) (hb:b≤1000000000):Calls prog 357 #[.int .i64 a,.int .i64 b] w fun e w'=>e=.returned (.int .i64 (cY a b))∧w=w':=by
 unfold cY;have t1:-b<a.tmod b∧a.tmod b<b:=⟨by have:=Int.lt_tmod_of_pos a hb0;omega,Int.tmod_lt_of_pos a hb0⟩
 have t2:-4000000000000000000≤a.tdiv b∧a.tdiv b≤4000000000000000000:=by
  have e1:=Int.natAbs_tdiv_le_natAbs a b;omega
 have hbz:(b==0)=false:=by simp;omega
 have hbz2:b≠0:=by omega
 go_enter func357,ntmps357;go_wp2_with fail
 all_goals go_ret
 all_goals simp_all
theorem t8 (a b:Int) (w:World) (ha:-4000000000000000000≤a∧a≤4000000000000000000) (hb0:0<b) (hb:b≤1000000000):Calls prog 361 #[.int .i64 a,.int .i64 b] w fun e w'=>e=.returned (.int .i64 (gu a b))∧w=w':=by
 have H:=aa (fun W=>lM (-a) b W (by omega) hb0 hb)
 have hq:-4000000000000000001≤cY (-a) b∧cY (-a) b≤4000000000000000001:=by
  unfold cY;have e1:=Int.natAbs_tdiv_le_natAbs (-a) b
  split<;>omega
 unfold gu;obtain⟨q,hq2⟩:=ag (cY (-a) b);rw[hq2] at H hq ⊢;clear hq2;go_enter func361,ntmps361;go_wp2_with fail;refine(H.out _).mono ?_;rintro e w1 ⟨rfl,rfl⟩;go_wp2_with fail;go_ret;exact⟨rfl,rfl⟩
def ot:Array Value:=(sinT.map (Value.int .i64)).toArray
theorem bJ {P:Program} {ops:Array Oper} {rest:List Oper} {o:Oper} {a:Act} {w:World} {Q:Exit→Act→World→Prop} (hg:o.guard=none) (t:TypeId) (parts:Array (Nat×Operand)) (ho:o.op=.build t parts) (v:Array Value)
 (hf:P.built t (parts.map fun(i,x)=>(i,a.eval x)).toList=some v)
 (h:wpList P ops Q rest (a.put o.dst (.agg v)) w):wpList P ops Q (o::rest) a w :=
 wpList_build hg t parts ho (by rw[hf];rfl) (by rw[hf];exact h)
theorem cv {P:Program} {fn:Func} {p:Tmp} {ty:TypeId} (h:fn.results=#[.cell p ty]) (tmps:Array Value) (w:World) (g:Nat) (t:TypeId) (cs:Array Value) (fr:Nat×Nat) (d:TypeDesc)
 (hp:tmps.getD p undef=.pointer (some ⟨g,0,none⟩)) (hg:w.heap[g]?=some (.cells cs t fr))
 (hu:P.underlying ty=some d) (hd:(match d with|.struct _|.array _ _=>true|_=>false)=true) (hi:(P.info? ty).map (·.size)=some cs.size) :
 (results fn tmps).run P w=.ok (.agg cs) w:=by
 have hp':tmps[p]?.getD undef=.pointer (some ⟨g,0,none⟩):=by simpa using hp
 simp[results,h,hp',asAddr,run_loadVar_row w g t ty cs fr d hg hu hd hi]
theorem w9 (w:World):Calls prog 371 #[] w fun e w'=>e=.returned (.agg ot)∧Below w.heap.size w w':=by
 have hz:=heap_alloc_new w (.cells (Array.replicate 91 (.int .i64 0)) 370);go_enter func371,ntmps371;go_upto_region 1 with fail;refine wp_region_list ?_;refine bJ rfl _ _ rfl ot (by kernel_rfl) ?_;refine wpList_store_row rfl 370 _ _ rfl w.heap.size ot rfl rfl 370 _ (heap_alloc_new _ _) (by kernel_rfl) (by kernel_rfl) (by kernel_rfl) ?_;go_wp2_with fail;refine bodyPost_ret (v:=.agg ot) (cv results371 _ _ w.heap.size 370 ot (0,0) _ rfl (setRow_heap _ _ _ _ _ _ (heap_alloc_new _ _)) underlying370 rfl (by kernel_rfl)) rfl ⟨rfl,below_setRow (aD) (Nat.le_refl _) _⟩
theorem sZ (n:Nat) (h:n≤90):ot[n]?=some (.int .i64 (sinT.getD n 0)):=by
 have:n<sinT.length:=by show n<91;omega
 simp[ot,List.getD_eq_getElem?_getD,this]
theorem rN (A:Array Value) (n:Nat) (i v:Int) (hi:i=n) (hn:n≤90) (hg:A[n]?=some (.int .i64 v)) (w:World):(Instr.index 370 (.agg A) (.int .i64 i)).run prog w=.ok (.int .i64 v) w:=by
 have h1:n<A.size:=by
  apply Classical.byContradiction;intro h
  rw[Array.getElem?_eq_none (by omega)] at hg;cases hg
 have h2:(0:Int)≤i∧i<(91:Nat):=by omega
 have h3:i.toNat=n:=by omega
 simp[Instr.index,asIntOf,run_underlying underlying370,go_sem,h2,h3,hg,part]
 intro h;omega
theorem oh (d:Int) (h0:-1000000≤d) (h1:d≤1000000) (hn:cz d≤180) (w:World):Calls prog 360 #[.int .i64 d] w fun e w'=>e=.returned (.int .i64 (mX (cz d)))∧Below w.heap.size w w':=by
 have HN:=aa (fun W=>jb d h0 h1 W);have hb:=ft d;obtain⟨n,hnn⟩:∃n:Nat,cz d=n:=⟨(cz d).toNat,by omega⟩;rw[hnn] at hb hn HN ⊢;have HS:=aa (fun W=>w9 W)
 by_cases h90:(n:Int)≤90
 ·have hg:=sZ n (by omega)
  have hs:mX (n:Int)=sinT.getD n 0:=by unfold mX;rw[if_pos h90];rfl
  rw[hs];obtain⟨v,hv⟩:=ag (sinT.getD n 0);rw[hv] at hg ⊢
  have h90b:decide ((n:Int)≤90)=true:=by simpa using h90
  have X:=rN ot n n v rfl (by omega) hg;obtain⟨A,hA⟩:=ag ot;rw[hA] at HS X;clear hA hg hs hv h90 hnn hb hn;go_enter func360,ntmps360;go_wp2_with fail;refine(HN.out _).mono ?_;rintro e w1 ⟨rfl,rfl⟩;go_wp2_with fail;refine(HS.out _).mono ?_;rintro e w1 ⟨rfl,hb1⟩;go_wp2_with fail;go_ret;exact⟨rfl,hb1⟩
 ·have hg:=sZ (180-n) (by omega)
  have hs:mX (n:Int)=sinT.getD (180-n) 0:=by unfold mX;rw[if_neg h90];congr 1;omega
  rw[hs];obtain⟨v,hv⟩:=ag (sinT.getD (180-n) 0);rw[hv] at hg ⊢
  have h90b:decide ((n:Int)≤90)=false:=by simpa using h90
  have h180b:decide ((n:Int)≤180)=true:=by simpa using hn
  have X:=rN ot (180-n) (180-(n:Int)) v (by omega) (by omega) hg;obtain⟨A,hA⟩:=ag ot;rw[hA] at HS X;clear hA hg hs hv h90 hnn hn;go_enter func360,ntmps360;go_wp2_with fail;refine(HN.out _).mono ?_;rintro e w1 ⟨rfl,rfl⟩;go_wp2_with fail;refine(HS.out _).mono ?_;rintro e w1 ⟨rfl,hb1⟩;go_wp2_with fail;go_ret;exact⟨rfl,hb1⟩
theorem qQ (d:Int) (h0:-1000000≤d) (h1:d≤1000000) (w:World):Calls prog 360 #[.int .i64 d] w fun e w'=>e=.returned (.int .i64 (gJ d))∧Below w.heap.size w w':=by
 by_cases hn:cz d≤180
 ·have:=oh d h0 h1 hn w
  unfold gJ;rw[if_pos hn];exact this
 ·have HN:=aa (fun W=>jb d h0 h1 W)
  have hb:=ft d;have hsb:=ng d;unfold gJ at hsb ⊢;rw[if_neg hn] at hsb ⊢
  have hnn:cz (cz d-180)=cz d-180:=by rw[nt (cz d-180)];omega
  have HL:=aa (fun W=>oh (cz d-180) (by omega) (by omega) (by omega) W);rw[hnn] at HL;clear hnn;obtain⟨n,hnn⟩:=ag (cz d);rw[hnn] at hb hn HN HL hsb ⊢;obtain⟨v,hv⟩:=ag (mX (n-180));rw[hv] at HL hsb ⊢
  have h90b:decide ((n:Int)≤90)=false:=by simp;omega
  have h180b:decide ((n:Int)≤180)=false:=by simp;omega
  clear hv hnn;go_enter func360,ntmps360;go_wp2_with fail;refine(HN.out _).mono ?_;rintro e w1 ⟨rfl,rfl⟩;go_wp2_with fail;refine(HL.out _).mono ?_;rintro e w1 ⟨rfl,hb1⟩;go_wp2_with fail;go_ret;exact⟨rfl,hb1⟩
theorem wj (d:Int) (h0:-1000000≤d) (h1:d≤1000000) (w:World):Calls prog 359 #[.int .i64 d] w fun e w'=>e=.returned (.int .i64 (ju d))∧Below w.heap.size w w':=by
 have HN:=aa (fun W=>jb d h0 h1 W);have hb:=ft d;have HS:=aa (fun W=>qQ (cz d+90) (by omega) (by omega) W);unfold ju;obtain⟨n,hnn⟩:=ag (cz d);rw[hnn] at hb HN HS ⊢;clear hnn;go_enter func359,ntmps359;go_wp2_with fail;refine(HN.out _).mono ?_;rintro e w1 ⟨rfl,rfl⟩;go_wp2_with fail;refine(HS.out _).mono ?_;rintro e w1 ⟨rfl,hb1⟩;go_wp2_with fail;go_ret;exact⟨rfl,hb1⟩
def Crs.vals (c:Crs):Array Value:=#[.int .i64 c.bearing,.int .i64 c.needle,.int .i64 c.links,.int .i64 c.year,.int .i64 c.wear,.int .i64 c.slack]
def Crs.val (c:Crs):Value:=.agg c.vals
theorem nY (a b:Int) (w:World):Calls prog 342 #[.agg #[.int .i64 a,.int .i64 b]] w fun e w'=>e=.returned (.int .i64 (if(bm a (-500) 500&&bm b 0 200)=true then 0 else 1))∧Below w.heap.size w w':=by
 have H1:=aa (fun W=>eY a (-500) 500 W);have H2:=aa (fun W=>eY b 0 200 W);obtain⟨p,hp⟩:=ag (bm a (-500) 500);obtain⟨q,hq⟩:=ag (bm b 0 200);rw[hp] at H1 ⊢;rw[hq] at H2 ⊢;clear hp hq;cases p
 rotate_left
 cases q
 rotate_left
 all_goals
  go_enter func342,ntmps342;go_wp2_with (first|(go_at_call 255;(first|with_reducible refine(H1.out _).mono ?_|with_reducible refine(H2.out _).mono ?_);rintro e w1 ⟨rfl,rfl⟩)|(go_at_call 341;refine(ip _ _).mono ?_;rintro e w1 ⟨rfl,rfl⟩));go_ret;exact⟨rfl,by go_grown⟩
theorem fz (c:Crs) (w:World):Calls prog 320 #[c.val] w fun e w'=>e=.returned (.int .i64 (if c.ok=true then 0 else 1))∧Below w.heap.size w w':=by
 obtain⟨c1,c2,c3,c4,c5,c6⟩:=c;unfold Crs.val Crs.vals Crs.ok;dsimp only;have H1:=aa (fun W=>eY c1 0 359 W);have H2:=aa (fun W=>eY c2 0 30 W);have H3:=aa (fun W=>eY c3 1 100000 W);have H4:=aa (fun W=>eY c4 1 3000 W);have H5:=aa (fun W=>nY c5 c6 W);rw[Bool.and_assoc _ (bm c5 _ _)];obtain⟨p1,hp1⟩:=ag (bm c1 0 359);obtain⟨p2,hp2⟩:=ag (bm c2 0 30);obtain⟨p3,hp3⟩:=ag (bm c3 1 100000);obtain⟨p4,hp4⟩:=ag (bm c4 1 3000);obtain⟨p5,hp5⟩:=ag (bm c5 (-500) 500&&bm c6 0 200);rw[hp1] at H1 ⊢;rw[hp2] at H2 ⊢;rw[hp3] at H3 ⊢;rw[hp4] at H4 ⊢;rw[hp5] at H5 ⊢;clear hp1 hp2 hp3 hp4 hp5;cases p1
 rotate_left
 cases p2
 rotate_left
 cases p3
 rotate_left
 cases p4
 rotate_left
 cases p5
 rotate_left
 all_goals
  go_enter func320,ntmps320;go_wp2_with (first|(go_at_call 255;(first|with_reducible refine(H1.out _).mono ?_|with_reducible refine(H2.out _).mono ?_|with_reducible refine(H3.out _).mono ?_|with_reducible refine(H4.out _).mono ?_);rintro e w1 ⟨rfl,rfl⟩)|(go_at_call 342;refine(H5.out _).mono ?_;rintro e w1 ⟨rfl,hb1⟩)|(go_at_call 341;refine(ip _ _).mono ?_;rintro e w1 ⟨rfl,rfl⟩));go_ret;exact⟨rfl,by first|(go_grown;done)|exact(aD).trans (hb1.mono (by simp))⟩
theorem tP (w:World):Calls prog 341 #[.bool false] w fun e w'=>e=.returned (.int .i64 1)∧w=w':=ip false w
theorem zY (w:World):Calls prog 341 #[.bool true] w fun e w'=>e=.returned (.int .i64 0)∧w=w':=ip true w
theorem rM (n:Int) (hn:n≤9223372030926249000) (h0:-9000000000000000000≤n) (w:World):Calls prog 358 #[.int .i64 n] w fun e w'=>e=.returned (.int .i64 (fC n))∧w=w':=by
 have HR:=aa (nT hn);go_enter func358,ntmps358;go_wp2_with fail
 go_loopw [3,4] (fun x y wr=>∃lo hi:Int,x=.int .i64 lo∧y=.int .i64 hi∧0≤lo∧lo≤hi∧hi≤3037000499∧Hid (lo=0∨lo*lo≤n)∧Hid (n<(hi+1)*(hi+1))∧w=wr) (fun x y _=>(intOf y-intOf x).toNat)
 case atStart=>exact⟨0,3037000499,rfl,rfl,by omega,by omega,by omega,aa (.inl rfl),aa (by omega),rfl⟩
 case round =>
  obtain⟨lo,hi,rfl,rfl,l0,l1,l2,H1,H2,rfl⟩:=hrel
  by_cases hlt:lo<hi
  ·obtain⟨m,hm⟩:=ag (lo+(hi-lo+1)/2)
   have m1:lo<m∧m≤hi:=by omega
   obtain⟨p,hp⟩:=ag (m*m)
   have p1:0≤p∧p≤9223372030926249001:=by
    rw[←hp];exact⟨Int.mul_nonneg (by omega) (by omega),Int.mul_le_mul (a:=m) (c:=3037000499) (b:=m) (d:=3037000499) (by omega) (by omega) (by omega) (by omega)⟩
   by_cases hq:p≤n
   ·go_wp2_with fail
    go_roundw
    case rel=>exact⟨m,hi,rfl,rfl,by omega,by omega,by omega,aa (.inr (by rw[hp];exact hq)),H2,trivial⟩
    case measure=>simp[intOf];omega
   ·go_wp2_with fail
    go_roundw
    case rel=>exact⟨lo,m-1,rfl,rfl,by omega,by omega,by omega,H1,aa (by rw[show m-1+1=m by omega,hp];omega),trivial⟩
    case measure=>simp[intOf];omega
  ·obtain rfl:lo=hi:=by omega
   obtain rfl:lo=fC n:=pn ⟨l0,H1.out,H2.out⟩ HR.out;go_wp2_with fail;go_ret;exact⟨rfl,rfl⟩
theorem vD (n:Int) (hn:n≤9223372030926249000) (h0:-9000000000000000000≤n) (w:World):Calls prog 362 #[.int .i64 n] w fun e w'=>e=.returned (.int .i64 (fG n))∧w=w':=by
 have HR:=nT hn;have H:=aa (fun W=>rM n hn h0 W);unfold fG;obtain⟨r,hr⟩:=ag (fC n);rw[hr] at HR H ⊢
 have r1:0≤r∧r≤3037000499:=by
  refine⟨HR.1,?_⟩
  apply Classical.byContradiction
  intro hc;have:=HR.2.1;have:3037000500*3037000500≤r*r:=Int.mul_le_mul (by omega) (by omega) (by omega) (by omega);omega
 obtain⟨p,hp⟩:=ag (r*r)
 have p1:0≤p∧p≤9223372030926249001:=by
  rw[←hp];exact⟨Int.mul_nonneg (by omega) (by omega),Int.mul_le_mul (a:=r) (c:=3037000499) (b:=r) (d:=3037000499) (by omega) (by omega) (by omega) (by omega)⟩
 rw[hp];clear HR hr
 by_cases hq:p<n
 all_goals
  first|rw[if_pos hq]|rw[if_neg hq]
  go_enter func362,ntmps362;go_wp2_with (go_at_call 358;refine(H.out _).mono ?_;rintro e w1 ⟨rfl,rfl⟩);go_ret;exact⟨rfl,rfl⟩
theorem xD (dx dy:Int) (w:World):Calls prog 324 #[.int .i64 dx,.int .i64 dy] w fun e w'=>e=.returned (.int .i64 (if dx=0∨bm dx (-100000) 100000=false∨bm dy (-100000) 100000=false then 1 else 0))∧w=w':=by
 have H1:=aa (fun W=>eY dx (-100000) 100000 W);have H2:=aa (fun W=>eY dy (-100000) 100000 W);obtain⟨p,hp⟩:=ag (bm dx (-100000) 100000);obtain⟨q,hq⟩:=ag (bm dy (-100000) 100000);rw[hp] at H1 ⊢;rw[hq] at H2 ⊢;clear hp hq
 by_cases hz:dx=0
 ·rw[if_pos (.inl hz)]
  subst hz;go_enter func324,ntmps324;go_wp2_with (go_at_call 341;refine(tP _).mono ?_;rintro e w1 ⟨rfl,rfl⟩);go_ret;exact⟨rfl,rfl⟩
 ·have hzb:(dx != 0)=true:=by simpa using hz
  cases p
  rotate_left
  cases q
  rotate_left
  all_goals
   simp only[hz,or_false,or_true,true_or,reduceCtorEq,↓reduceIte];clear hz;go_enter func324,ntmps324;go_wp2_with (first|(go_at_call 255;(first|with_reducible refine(H1.out _).mono ?_|with_reducible refine(H2.out _).mono ?_);rintro e w1 ⟨rfl,rfl⟩)|(go_at_call 341;(first|with_reducible refine(tP _).mono ?_|with_reducible refine(zY _).mono ?_);rintro e w1 ⟨rfl,rfl⟩));go_ret;exact⟨rfl,rfl⟩
theorem zZ (c:Crs) (hc:-1000≤c.bearing∧c.bearing≤1000) (w:World):Calls prog 354 #[c.val] w fun e w'=>e=.returned c.back.val∧Below w.heap.size w w':=by
 have H:=aa (fun W=>jb (c.bearing+180) (by omega) (by omega) W);have hb:=ft (c.bearing+180);unfold Crs.back;obtain⟨v,hv⟩:=ag (cz (c.bearing+180));rw[hv] at H hb ⊢;obtain⟨c1,c2,c3,c4,c5,c6⟩:=c;unfold Crs.val Crs.vals
 dsimp only at *
 clear hv;go_enter func354,ntmps354;go_wp2_with (go_at_call 345;refine(H.out _).mono ?_;rintro e w1 ⟨rfl,rfl⟩);refine bodyPost_ret (v:=_) (cv results354 _ _ (w.heap.size+1) 46 #[.int .i64 v,.int .i64 c2,.int .i64 c3,.int .i64 c4,.int .i64 c5,.int .i64 c6] (0,0) _ rfl ?_ underlying46 rfl (by kernel_rfl)) rfl ⟨rfl,by go_grown⟩;have:=heap_alloc_new (w.alloc (.cells #[.int .i64 v,.int .i64 c2,.int .i64 c3,.int .i64 c4,.int .i64 c5,.int .i64 c6] 46)) (.cells #[.int .i64 v,.int .i64 c2,.int .i64 c3,.int .i64 c4,.int .i64 c5,.int .i64 c6] 46);simpa using this
theorem tW (a b n:Int) (ha:-500≤a∧a≤500) (hb:0≤b∧b≤200) (hn:1≤n∧n≤100000) (w:World):Calls prog 356 #[.agg #[.int .i64 a,.int .i64 b],.int .i64 n] w fun e w'=>e=.returned (.tuple #[.int .i64 (n*(10000+a-b)),.int .i64 (n*(10000+a+b))])∧Below w.heap.size w w':=by
 have b1:0≤n*(10000+a-b)∧n*(10000+a-b)≤1070000000:=⟨Int.mul_nonneg (by omega) (by omega),Int.le_trans (Int.mul_le_mul (c:=100000) (d:=10700) (by omega) (by omega) (by omega) (by omega)) (by omega)⟩;have b2:0≤n*(10000+a+b)∧n*(10000+a+b)≤1070000000:=⟨Int.mul_nonneg (by omega) (by omega),Int.le_trans (Int.mul_le_mul (c:=100000) (d:=10700) (by omega) (by omega) (by omega) (by omega)) (by omega)⟩;have w1:IntKind.i64.wrap (10000+a)=10000+a:=IntWalk.i64_in _ (by omega);have w2:IntKind.i64.wrap (10000+a-b)=10000+a-b:=IntWalk.i64_in _ (by omega);have w3:IntKind.i64.wrap (10000+a+b)=10000+a+b:=IntWalk.i64_in _ (by omega);have w4:IntKind.i64.wrap (n*(10000+a-b))=n*(10000+a-b):=IntWalk.i64_in _ (by omega);have w5:IntKind.i64.wrap (n*(10000+a+b))=n*(10000+a+b):=IntWalk.i64_in _ (by omega);go_enter func356,ntmps356;go_wp2_with fail
 go_quiet (fail)
 go_wp2_with fail;go_ret2;exact⟨rfl,(aD).trans (aA _ _)⟩
def vW:Option Int→Value
 | none=>.tuple #[.int .i64 0,.bool false]
 | some e=>.tuple #[.int .i64 e,.bool true]
theorem tr {l:List Vrn} {k:Nat} (hk:k<l.length) (y:Int) (r:Option Int):jL y (l.drop k) r=jL y (l.drop (k+1)) (if l[k].year≤y then some l[k].east else r):=by
 rw[List.drop_eq_getElem_cons hk];rfl
theorem nO (w:World) (a:Option Addr) (cap:Nat) (l:List Vrn) (year:Int) (hl:l.length≤9223372036854775807) (h:VrnsAt w a l) :
 Calls prog 270 #[.slice a l.length cap,.int .i64 year] w fun e w'=>e=.returned (vW (eN l year))∧Below w.heap.size w w':=by
 obtain⟨R,hR⟩:=ag (eN l year);rw[hR];unfold eN at hR;have HC:=aa (gI w a cap l hl h);obtain⟨z,hz⟩:=ag (bz l);rw[hz] at HC hR
 by_cases h0:z=0
 ·subst h0
  rw[if_neg (by omega)] at hR;have HV:=aa hR;have H:=aa h;clear hR hz h;go_enter func270,ntmps270;go_wp2_with (go_at_call 205;refine HC.out.mono ?_;rintro e w1 ⟨rfl,hb1⟩)
  go_loopw [6,7,15] (fun y i j wr=>∃(k:Nat) (r:Option Int),k≤l.length∧j=.int .i64 k∧y=.int .i64 (r.getD 0)∧i=.bool r.isSome∧Hid (jL year (l.drop k) r=R)∧Below w.heap.size w wr) (fun _ _ j _=>l.length-(intOf j).toNat)
  case atStart=>exact⟨0,none,Nat.zero_le _,rfl,rfl,rfl,HV,hb1⟩
  case round =>
   obtain⟨k,r,hk,rfl,rfl,rfl,HG,hb⟩:=hrel
   by_cases hlt:k<l.length
   ·obtain⟨b,off,rfl,hbl,hc⟩:=RecsAt.at H.out hlt
    have c0:=hc 0 (by omega);have c1:=hc 1 (by omega);rw[←hb.cell hbl,Nat.add_zero] at c0;rw[←hb.cell hbl] at c1;have HS:=aa (tr hlt year r);obtain⟨x,hx⟩:=ag (l[k]);rw[hx] at c0 c1 HS;obtain⟨xy,xe⟩:=x;simp only[Vrn.cells,List.getElem?_cons_zero,List.getElem?_cons_succ] at c0 c1;simp only at HS;clear hx hc;have B:=aa hb;have l1:=B.out.size;clear hb
    by_cases hq:xy≤year
    ·rw[if_pos hq] at HS
     go_wp2_with fail;go_roundw
     case rel=>exact⟨k+1,some xe,by omega,by go_num,rfl,rfl,aa (by rw[←HS.out];exact HG.out),B.out.alloc B.out.size _⟩
     case measure=>simp[intOf];omega
    ·rw[if_neg hq] at HS
     go_wp2_with fail;go_roundw
     case rel=>exact⟨k+1,r,by omega,by go_num,rfl,rfl,aa (by rw[←HS.out];exact HG.out),B.out.alloc B.out.size _⟩
     case measure=>simp[intOf];omega
   ·obtain rfl:k=l.length:=by omega
    obtain rfl:r=R:=by rw[←HG.out,List.drop_length];rfl
    go_wp2_with fail;go_ret2;exact⟨by cases r<;>rfl,hb⟩
 ·have hzb:(z != 0)=true:=by simpa using h0
  rw[if_pos h0] at hR;subst hR;clear hz h0 h;go_enter func270,ntmps270;go_wp2_with (go_at_call 205;refine HC.out.mono ?_;rintro e w1 ⟨rfl,hb1⟩);go_ret2;exact⟨rfl,hb1⟩
theorem VrnsAt.next {W W':World} {a:Option Addr} {l:List Vrn} (h:VrnsAt W a l) (hb:Below W.heap.size W W'):VrnsAt W' a l:=h.below hb (Nat.le_refl _)
theorem ui (w:World) (a:Option Addr) (cap:Nat) (l:List Vrn) (c:Crs) (e:Int) (hc:c.ok=true) (he:eN l c.year=some e) (hl:l.length≤9223372036854775807) (h:VrnsAt w a l) :
 Calls prog 355 #[.slice a l.length cap,c.val] w fun r w'=>r=.returned (.tuple #[.int .i64 (eH c e-c.needle),.int .i64 (eH c e+c.needle)])∧Below w.heap.size w w':=by
 have hcb:=Crs.ok_iff.1 hc;have heb:=Ai he;have HD:=aa (fun W (hW:VrnsAt W a l)=>nO W a cap l c.year hl hW);rw[he] at HD;have HN:=aa (fun W=>jb (c.bearing+e+90) (by omega) (by omega) W);have hm:=wh c e;have hnb:=ft (c.bearing+e+90);unfold eH at hm ⊢;obtain⟨v,hv⟩:=ag (cz (c.bearing+e+90));rw[hv] at HN hm hnb ⊢;obtain⟨w0,hw0⟩:∃W,W=w.alloc (.cells c.vals 46):=⟨_,rfl⟩;have hv0:=aa (show VrnsAt w0 a l by rw[hw0];exact h.alloc _);have hb0:=aa (show Below w.heap.size w w0 by rw[hw0];exact aD);have hx0:=aa (show Kb [(w.heap.size,.cells c.vals 46)] w0 by rw[hw0];exact Kb.alloc trivial);obtain⟨c1,c2,c3,c4,c5,c6⟩:=c
 unfold Crs.val Crs.vals at *
 unfold vW at HD
 dsimp only at *
 have k0:=ce (i:=3) hx0.out.1 rfl;clear hc he h hv;go_enter func355,ntmps355;go_upto_region 1 with fail;rw[←hw0];clear hw0;go_wp2_with fail;refine(HD.out _ hv0.out).mono ?_;rintro e w1 ⟨rfl,hb1⟩;have hx1:=aa (hx0.out.next hb1);have B1:=bU hb0 hb1;have k1:=ce (i:=0) hx1.out.1 rfl;have k2:=ce (i:=1) hx1.out.1 rfl;clear k0 hb1 hb0 hx0 hv0 HD;go_wp2_with (go_at_call 345;refine(HN.out _).mono ?_;rintro e w2 ⟨rfl,rfl⟩)
 go_quiet (fail)
 go_wp2_with fail;go_ret2;exact⟨rfl,B1.out.trans (aA _ _)⟩
def qV (lo hi dx near far:Int):Array Value:=#[.int .i64 lo,.int .i64 hi,.int .i64 dx,.int .i64 near,.int .i64 far]
theorem uK (w:World) (a:Option Addr) (cap:Nat) (l:List Vrn) (c:Crs) (e dx:Int) (hc:c.ok=true) (he:eN l c.year=some e) (hl:l.length≤9223372036854775807) (h:VrnsAt w a l) :
 Calls prog 347 #[.slice a l.length cap,c.val,.int .i64 dx] w fun r w'=>r=.returned (.agg (qV (eH c e-c.needle) (eH c e+c.needle) dx c.near c.far))∧Below w.heap.size w w':=by
 have hcb:=Crs.ok_iff.1 hc;have HS:=aa (fun W (hW:VrnsAt W a l)=>ui W a cap l c e hc he hl hW);have HL:=aa (fun W=>tW c.wear c.slack c.links (by omega) (by omega) (by omega) W);obtain⟨lo,hlo⟩:=ag (eH c e-c.needle);obtain⟨hi,hhi⟩:=ag (eH c e+c.needle);unfold Crs.near Crs.far;rw[hlo,hhi] at HS ⊢;obtain⟨nr,hnr⟩:=ag (c.links*(10000+c.wear-c.slack));obtain⟨fr,hfr⟩:=ag (c.links*(10000+c.wear+c.slack));rw[hnr,hfr] at HL ⊢;obtain⟨w0,hw0⟩:∃W,W=((w.alloc (.cells c.vals 46)).alloc (.cells (qV 0 0 0 0 0) 341)).alloc (.cells (qV 0 0 dx 0 0) 341):=⟨_,rfl⟩;have hv0:=aa (show VrnsAt w0 a l by rw[hw0];exact((h.alloc _).alloc _).alloc _);have hb0:=aa (show Below w.heap.size w w0 by rw[hw0];exact((aD).alloc (by simp) _).alloc (by simp;omega) _)
 have hx0:=aa (show Kb [(w.heap.size+1+1,.cells (qV 0 0 dx 0 0) 341),(w.heap.size+1,.cells (qV 0 0 0 0 0) 341),(w.heap.size,.cells c.vals 46)] w0 by
  rw[hw0];have:=Kb.alloc (o:=.cells (qV 0 0 dx 0 0) 341) (Kb.alloc (o:=.cells (qV 0 0 0 0 0) 341) (Kb.alloc (W:=w) (o:=.cells c.vals 46) (L:=[]) trivial))
  simpa using this)
 unfold qV at *
 obtain⟨c1,c2,c3,c4,c5,c6⟩:=c
 unfold Crs.val Crs.vals at *
 dsimp only at *
 have k0:=ce (i:=0) hx0.out.2.2.1 rfl;have k1:=ce (i:=1) hx0.out.2.2.1 rfl;have k2:=ce (i:=2) hx0.out.2.2.1 rfl;have k3:=ce (i:=3) hx0.out.2.2.1 rfl;have k4:=ce (i:=4) hx0.out.2.2.1 rfl;have k5:=ce (i:=5) hx0.out.2.2.1 rfl;clear hc he h hlo hhi hnr hfr;go_enter func347,ntmps347;go_upto_region 2 with fail;rw[←hw0];clear hw0;go_wp2_with fail;refine(HS.out _ hv0.out).mono ?_;rintro e w1 ⟨rfl,hb1⟩;have hx1:=aa (hx0.out.next hb1);have B1:=bU hb0 hb1;clear hb1 hb0 hx0 hv0 HS k0 k1 k2 k3 k4 k5;have z0:=ce (i:=0) hx1.out.1 rfl;have z1:=ce (i:=1) hx1.out.1 rfl;have y0:=cf (i:=0) hx1.out.1;have y1:=cf (i:=1) hx1.out.1;have k2:=ce (i:=2) hx1.out.2.2.1 rfl;have k4:=ce (i:=4) hx1.out.2.2.1 rfl;have k5:=ce (i:=5) hx1.out.2.2.1 rfl;go_wp2_with fail;refine(HL.out _).mono ?_;rintro e w3 ⟨rfl,hb3⟩;have hx3:=aa (((hx1.out.set (i:=0) (by simp;omega) (.int .i64 lo)).set (i:=1) (by simp;omega) (.int .i64 hi)).next hb3);have B3:=aa ((show Below w.heap.size w ((w1.setCell ⟨w.heap.size+1+1,0,none⟩ (.int .i64 lo)).setCell ⟨w.heap.size+1+1,1,none⟩ (.int .i64 hi)) from(B1.out.setCell (by dsimp only;omega) _).setCell (by dsimp only;omega) _).trans (hb3.mono (by have:=B1.out.size;simpa using this)));clear hb3 hx1 B1 z0 z1 y0 y1 k2 k4 k5;simp only[List.setIfInBounds_toArray,List.set_cons_zero,List.set_cons_succ] at hx3;have z0:=ce (i:=0) hx3.out.1 rfl;have z1:=ce (i:=1) hx3.out.1 rfl;have z2:=ce (i:=2) hx3.out.1 rfl;have z3:=ce (i:=3) hx3.out.1 rfl;have z4:=ce (i:=4) hx3.out.1 rfl;have y3:=cf (i:=3) hx3.out.1;have y4:=cf (i:=4) hx3.out.1;go_upto_region 4 with fail;obtain⟨w4,hw4⟩:∃W,W=((w3.setCell ⟨w.heap.size+1+1,3,none⟩ (.int .i64 nr)).setCell ⟨w.heap.size+1+1,4,none⟩ (.int .i64 fr)):=⟨_,rfl⟩;have hx4:=(hx3.out.set (i:=3) (by simp;omega) (.int .i64 nr)).set (i:=4) (by simp;omega) (.int .i64 fr);have B4:=aa ((show Below w.heap.size w ((w3.setCell ⟨w.heap.size+1+1,3,none⟩ (.int .i64 nr)).setCell ⟨w.heap.size+1+1,4,none⟩ (.int .i64 fr)) from(B3.out.setCell (by dsimp only;omega) _).setCell (by dsimp only;omega) _));rw[←hw4] at hx4 B4 ⊢;simp only[List.setIfInBounds_toArray,List.set_cons_zero,List.set_cons_succ] at hx4;have hx5:=aa (show Kb [(w.heap.size+1,.cells #[.int .i64 0,.int .i64 0,.int .i64 0,.int .i64 0,.int .i64 0] 341)] w4 from⟨hx4.2.1,trivial⟩);clear hw4 z0 z1 z2 z3 z4 y3 y4 hx3 B3;have z0:=ce (i:=0) hx4.1 rfl;have z1:=ce (i:=1) hx4.1 rfl;have z2:=ce (i:=2) hx4.1 rfl;have z3:=ce (i:=3) hx4.1 rfl;have z4:=ce (i:=4) hx4.1 rfl;clear hx4;refine wp_region_list ?_;refine vH rfl _ _ rfl (by simp[go_sem,z0,z1,z2,z3,z4];exact⟨rfl,rfl⟩) ?_
 refine wpList_store_row rfl 341 _ _ rfl (w.heap.size+1) #[.int .i64 lo,.int .i64 hi,.int .i64 dx,.int .i64 nr,.int .i64 fr] rfl rfl 341 _ hx5.out.1 (by kernel_rfl) rfl (by simp[Value.oneCell']) ?_;go_wp2_with fail;refine bodyPost_ret (cv results347 _ _ (w.heap.size+1) 341 _ (0,0) _ rfl (setRow_heap _ _ _ _ _ _ hx5.out.1) underlying341 rfl (by kernel_rfl)) rfl ⟨rfl,below_setRow B4.out (by omega) _⟩
def z6 (lo hi dx near far:Int):Option (Int×Int) :=
 if hi≤0∨180≤lo then none else
 let most:=cY (far*far) 100000000-dx*dx
 if most<0 then none else
 let r:=min (fC most) 100000
 let h1:=if 0<lo then min r (cY (dx*ju lo) (gJ lo)) else r
 let l1:=if hi<180 then max (-r) (gu (dx*ju hi) (gJ hi)) else -r
 let least:=fG (gu (near*near) 100000000-dx*dx)
 let l2:=if hi≤90 then max l1 least else l1
 let h2:=if hi≤90 then h1 else if 90≤lo then min h1 (-least) else h1
 if h2<l2 then none else some (l2,h2)
theorem BC (c:Crs) (e dx:Int):vQ c e dx=z6 (eH c e-c.needle) (eH c e+c.needle) dx c.near c.far:=rfl
def dY:Option (Int×Int)→Value
 | none=>.tuple #[.int .i64 0,.int .i64 0,.bool false]
 | some p=>.tuple #[.int .i64 p.1,.int .i64 p.2,.bool true]
theorem oP {a b m:Int} (h1:-m≤a) (h2:a≤m):-m-1≤cY a b∧cY a b≤m:=by
 unfold cY;have e1:=Int.natAbs_tdiv_le_natAbs a b
 split<;>omega
theorem vZ {a b m:Int} (h1:-m≤a) (h2:a≤m):-m≤gu a b∧gu a b≤m+1:=by
 unfold gu;have:=oP (a:=-a) (b:=b) (m:=m) (by omega) (by omega);omega
theorem zm {a m:Int} (h1:0≤a) (h2:a≤m):0≤a*a∧a*a≤m*m:=⟨Int.mul_nonneg h1 h1,Int.mul_le_mul h2 h2 h1 (by omega)⟩
theorem sr {n:Int} (h:n≤9223372030926249000):0≤fC n∧fC n≤3037000499:=by
 have HR:=nT h;refine⟨HR.1,?_⟩
 apply Classical.byContradiction
 intro hc;have h2:=HR.2.1;have:3037000500*3037000500≤fC n*fC n:=Int.mul_le_mul (by omega) (by omega) (by omega) (by omega);omega
theorem m9 {d x:Int} (h1:-10000≤x) (h2:x≤10000) (d1:0≤d) (d2:d≤100000):-1000000000≤d*x∧d*x≤1000000000:=by
 have a:=Int.mul_le_mul_of_nonneg_left h1 d1;have b:=Int.mul_le_mul_of_nonneg_left h2 d1;omega
theorem yJ (lo hi dx near far:Int) (hlo:-1000≤lo∧lo≤1000) (hhi:-1000≤hi∧hi≤1000) (hdx:1≤dx∧dx≤100000) (hn:0≤near∧near≤1070000000) (hf:0≤far∧far≤1070000000) (w:World) :
 Calls prog 348 #[.agg (qV lo hi dx near far)] w fun r w'=>r=.returned (dY (z6 lo hi dx near far))∧Below w.heap.size w w':=by
 obtain⟨R,hR⟩:=ag (z6 lo hi dx near far);rw[hR];unfold z6 at hR;simp only at hR;unfold qV
 by_cases hA:hi≤0∨180≤lo
 ·rw[if_pos hA] at hR
  subst hR
  by_cases hA1:hi≤0
  ·clear hA
   go_enter func348,ntmps348;go_wp2_with fail;refine bodyPost_ret (v:=dY none) (by simp[results,results348,go_sem,dY]) rfl ⟨rfl,by go_grown⟩
  ·have hA2:180≤lo:=by omega
   clear hA;go_enter func348,ntmps348;go_wp2_with fail;refine bodyPost_ret (v:=dY none) (by simp[results,results348,go_sem,dY]) rfl ⟨rfl,by go_grown⟩
 rw[if_neg hA] at hR
 have hA1:¬hi≤0:=by omega
 have hA2:¬180≤lo:=by omega
 have f2b:=zm hf.1 hf.2;have n2b:=zm hn.1 hn.2;have d2b:=zm (by omega:0≤dx) hdx.2;obtain⟨f2,hf2⟩:=ag (far*far);obtain⟨n2,hn2⟩:=ag (near*near);obtain⟨d2,hd2⟩:=ag (dx*dx);rw[hf2,hn2,hd2] at hR;rw[hf2] at f2b;rw[hn2] at n2b;rw[hd2] at d2b;have HFF:=aa (fun W=>lM f2 100000000 W (by omega) (by omega) (by omega));have ffb:=oP (a:=f2) (b:=100000000) (m:=1144900000000000000) (by omega) (by omega);have HCN:=aa (fun W=>t8 n2 100000000 W (by omega) (by omega) (by omega));have ccb:=vZ (a:=n2) (b:=100000000) (m:=1144900000000000000) (by omega) (by omega);obtain⟨ff,hff⟩:=ag (cY f2 100000000);obtain⟨cc,hcc⟩:=ag (gu n2 100000000);rw[hff] at hR HFF ffb;rw[hcc] at hR HCN ccb;obtain⟨most,hmost⟩:=ag (ff-d2);obtain⟨df,hdf⟩:=ag (cc-d2);rw[hmost,hdf] at hR
 have hmb:-2000000000000000000≤most∧most≤2000000000000000000:=by omega
 have hdb:-2000000000000000000≤df∧df≤2000000000000000000:=by omega
 have wf2:IntKind.i64.wrap (far*far)=f2:=by rw[hf2];exact IntWalk.i64_in _ (by omega)
 have wd2:IntKind.i64.wrap (dx*dx)=d2:=by rw[hd2];exact IntWalk.i64_in _ (by omega)
 have wn2:IntKind.i64.wrap (near*near)=n2:=by rw[hn2];exact IntWalk.i64_in _ (by omega)
 have wmo:IntKind.i64.wrap (ff-d2)=most:=by rw[hmost];exact IntWalk.i64_in _ (by omega)
 have wdf:IntKind.i64.wrap (cc-d2)=df:=by rw[hdf];exact IntWalk.i64_in _ (by omega)
 have hR0:=aa hR;obtain⟨w0,hw0⟩:∃W,W=w.alloc (.cells #[.int .i64 lo,.int .i64 hi,.int .i64 dx,.int .i64 near,.int .i64 far] 341):=⟨_,rfl⟩;have B0:=aa (show Below w.heap.size w w0 by rw[hw0];exact aD);have X0:=aa (show Kb [(w.heap.size,.cells #[.int .i64 lo,.int .i64 hi,.int .i64 dx,.int .i64 near,.int .i64 far] 341)] w0 by rw[hw0];exact Kb.alloc trivial);have k0:=ce (i:=0) X0.out.1 rfl;have k1:=ce (i:=1) X0.out.1 rfl;clear hR hff hcc hA f2b n2b d2b ffb ccb;go_enter func348,ntmps348;go_upto_region 1 with fail;rw[←hw0];clear hw0;go_upto_region 3 with fail;have hS1:=X0.out.drew;have B1:=aa (B0.out.trans (Below.refl _ w0).drew);refine aJ (S:=Kb [(w.heap.size,.cells #[.int .i64 lo,.int .i64 hi,.int .i64 dx,.int .i64 near,.int .i64 far] 341)]) (last:=100) (by kernel_rfl) ?_;refine aR 0 18 (.pointer (some ⟨w.heap.size,4,none⟩)) hS1 ?_;(try simp only[s3]);refine tf 1 19 (.int .i64 far) hS1 (fun V hV=>?_) ?_
 ·(have z:=ce (i:=4) (hV.1) rfl;simp[go_sem,execOp,z])
 (try simp only[s3]);refine aR 2 20 (.pointer (some ⟨w.heap.size,4,none⟩)) hS1 ?_;(try simp only[s3]);refine tf 3 21 (.int .i64 far) hS1 (fun V hV=>?_) ?_
 ·(have z:=ce (i:=4) (hV.1) rfl;simp[go_sem,execOp,z])
 (try simp only[s3]);refine tf 4 22 (.int .i64 f2) hS1 (fun V hV=>?_) ?_
 ·simp[go_sem,execOp,wf2]
 (try simp only[s3]);refine aR 6 24 (.pointer (some ⟨w.heap.size,2,none⟩)) hS1 ?_;(try simp only[s3]);refine tf 7 25 (.int .i64 dx) hS1 (fun V hV=>?_) ?_
 ·(have z:=ce (i:=2) (hV.1) rfl;simp[go_sem,execOp,z])
 (try simp only[s3]);refine aR 8 26 (.pointer (some ⟨w.heap.size,2,none⟩)) hS1 ?_;(try simp only[s3]);refine tf 9 27 (.int .i64 dx) hS1 (fun V hV=>?_) ?_
 ·(have z:=ce (i:=2) (hV.1) rfl;simp[go_sem,execOp,z])
 (try simp only[s3]);refine tf 10 28 (.int .i64 d2) hS1 (fun V hV=>?_) ?_
 ·simp[go_sem,execOp,wd2]
 (try simp only[s3]);refine ae 5 rfl (by kernel_rfl) (fun K hK=>?_);go_simp;go_at_call 357;refine(HFF.out _).mono ?_;rintro e w2 ⟨rfl,rfl⟩;go_wp2_with fail;refine hK.out _ _ (.inr hS1) ?_;clear hK K;(try simp only[Act.put,s3]);refine tf 11 29 (.int .i64 most) hS1 (fun V hV=>?_) ?_
 ·simp[go_sem,execOp,wmo]
 (try simp only[s3]);refine aR 12 5 (.int .i64 most) hS1 ?_;(try simp only[s3]);refine aw (by kernel_rfl) ?_ _
 by_cases hB:most<0
 ·have hR:=hR0.out
  rw[if_pos hB] at hR;subst hR;clear hR0;go_wp2_with fail;refine bodyPost_ret (v:=dY none) (by simp[results,results348,go_sem,dY]) rfl ⟨rfl,B1.out⟩
 have hR:=hR0.out;rw[if_neg hB] at hR;clear hR0;have HRT:=aa (fun W=>rM most (by omega) (by omega) W);have rb:=sr (n:=most) (by omega);obtain⟨rt,hrt⟩:=ag (fC most);rw[hrt] at hR HRT rb;obtain⟨r,hr⟩:=ag (min rt 100000);rw[hr] at hR
 have rrb:0≤r∧r≤100000:=by omega
 have hR1:=aa hR;clear hR hrt;obtain⟨w1,hw1⟩:∃W:World,W=w0.drew:=⟨_,rfl⟩;rw[←hw1] at hS1 B1 ⊢;clear hw1;have k0:=ce (i:=0) hS1.1 rfl;have k1:=ce (i:=1) hS1.1 rfl;go_wp2_with fail;refine(HRT.out _).mono ?_;rintro e w2 ⟨rfl,rfl⟩;go_upto_if 40 with fail;obtain⟨h1,hh1⟩:=ag (if 0<lo then min r (cY (dx*ju lo) (gJ lo)) else r);rw[hh1] at hR1
 have h1b:-1000000001≤h1∧h1≤100000:=by
  rw[←hh1];have c:=m8 lo;have:=m9 c.1 c.2 (by omega:0≤dx) hdx.2;have:=oP (a:=dx*ju lo) (b:=gJ lo) (m:=1000000000) (by omega) (by omega)
  split<;>omega
 have hhh1:=aa hh1;clear hh1
 go_cut [8] (fun s wx=>s=.int .i64 h1∧Hid (Kb [(w.heap.size,.cells #[.int .i64 lo,.int .i64 hi,.int .i64 dx,.int .i64 near,.int .i64 far] 341)] wx)∧Hid (Below w.heap.size w wx))
 case first =>
  by_cases q:0<lo
  ·have hh1:=hhh1.out
   rw[if_pos q] at hh1;have c:=m8 lo;have s:=ng lo;have sp:=sg (d:=lo) (by omega) (by omega);have HCL:=aa (fun W=>wj lo (by omega) (by omega) W);have HSL:=aa (fun W=>qQ lo (by omega) (by omega) W);obtain⟨cl,hcl⟩:=ag (ju lo);obtain⟨sl,hsl⟩:=ag (gJ lo);rw[hcl] at HCL c hh1;rw[hsl] at HSL s sp hh1;have pb:=m9 c.1 c.2 (by omega:0≤dx) hdx.2;obtain⟨pl,hpl⟩:=ag (dx*cl)
   have wpl:IntKind.i64.wrap (dx*cl)=pl:=by rw[hpl];exact IntWalk.i64_in _ (by omega)
   rw[hpl] at pb hh1;have HFL:=aa (fun W=>lM pl sl W (by omega) (by omega) (by omega));obtain⟨fl,hfl⟩:=ag (cY pl sl);rw[hfl] at HFL hh1;clear hcl hsl hpl hfl c s sp pb hhh1 h1b;go_wp2_with fail;have hS2:=hS1.drew;have B2:=aa (B1.out.trans (Below.refl _ w1).drew);refine aJ (S:=Kb [(w.heap.size,.cells #[.int .i64 lo,.int .i64 hi,.int .i64 dx,.int .i64 near,.int .i64 far] 341)]) (last:=100) (by kernel_rfl) ?_;refine aR 0 41 (.int .i64 r) hS2 ?_;(try simp only[s3]);refine aR 1 42 (.pointer (some ⟨w.heap.size,2,none⟩)) hS2 ?_;(try simp only[s3]);refine tf 2 43 (.int .i64 dx) hS2 (fun V hV=>?_) ?_
   ·(have z:=ce (i:=2) (hV.1) rfl;simp[go_sem,execOp,z])
   (try simp only[s3]);refine aR 3 44 (.pointer (some ⟨w.heap.size,0,none⟩)) hS2 ?_;(try simp only[s3]);refine tf 4 45 (.int .i64 lo) hS2 (fun V hV=>?_) ?_
   ·(have z:=ce (i:=0) (hV.1) rfl;simp[go_sem,execOp,z])
   (try simp only[s3]);refine aR 7 48 (.pointer (some ⟨w.heap.size,0,none⟩)) hS2 ?_;(try simp only[s3]);refine tf 8 49 (.int .i64 lo) hS2 (fun V hV=>?_) ?_
   ·(have z:=ce (i:=0) (hV.1) rfl;simp[go_sem,execOp,z])
   (try simp only[s3]);refine ae 5 rfl (by kernel_rfl) (fun K hK=>?_);go_simp;go_at_call 359;refine(HCL.out _).mono ?_;rintro e wq3 ⟨rfl,hbq3⟩;have hS3:=hS2.next hbq3;have B3:=bU B2 hbq3;clear hbq3;go_wp2_with fail;refine hK.out _ _ (.inr hS3) ?_;clear hK K;(try simp only[Act.put,s3]);refine tf 6 47 (.int .i64 pl) hS3 (fun V hV=>?_) ?_
   ·simp[go_sem,execOp,wpl]
   (try simp only[s3]);refine ae 9 rfl (by kernel_rfl) (fun K hK=>?_);go_simp;go_at_call 360;refine(HSL.out _).mono ?_;rintro e wq4 ⟨rfl,hbq4⟩;have hS4:=hS3.next hbq4;have B4:=bU B3 hbq4;clear hbq4;go_wp2_with fail;refine hK.out _ _ (.inr hS4) ?_;clear hK K;(try simp only[Act.put,s3]);refine ae 10 rfl (by kernel_rfl) (fun K hK=>?_);go_simp;go_at_call 357;refine(HFL.out _).mono ?_;rintro e wq ⟨rfl,rfl⟩;go_wp2_with fail;refine hK.out _ _ (.inr hS4) ?_;clear hK K;(try simp only[Act.put,s3]);refine tf 11 52 (.int .i64 h1) hS4 (fun V hV=>?_) ?_
   ·simp[go_sem,execOp,hh1]
   (try simp only[s3]);refine aR 12 8 (.int .i64 h1) hS4 ?_;(try simp only[s3]);refine aw (by kernel_rfl) ?_ _;go_wp2_with fail;go_meet;exact⟨rfl,aa hS4,B4⟩
  ·have hh1:=hhh1.out
   rw[if_neg q] at hh1;subst hh1;go_wp2_with fail;go_meet;exact⟨rfl,aa hS1,B1⟩
 case rest =>
 obtain⟨rfl,HX,HB⟩:=hcut;obtain⟨w5,rfl⟩:∃x:World,x=wc:=⟨wc,rfl⟩;have hS5:=HX.out;have B5:=HB;clear HX HB hS1 B1 k0 k1 hhh1;have k0:=ce (i:=0) hS5.1 rfl;have k1:=ce (i:=1) hS5.1 rfl;go_upto_if 55 with fail;obtain⟨l1,hl1⟩:=ag (if hi<180 then max (-r) (gu (dx*ju hi) (gJ hi)) else -r);rw[hl1] at hR1
 have l1b:-100000≤l1∧l1≤1000000001:=by
  rw[←hl1];have c:=m8 hi;have:=m9 c.1 c.2 (by omega:0≤dx) hdx.2;have:=vZ (a:=dx*ju hi) (b:=gJ hi) (m:=1000000000) (by omega) (by omega)
  split<;>omega
 have hhl1:=aa hl1;clear hl1
 go_cut [7] (fun s wx=>s=.int .i64 l1∧Hid (Kb [(w.heap.size,.cells #[.int .i64 lo,.int .i64 hi,.int .i64 dx,.int .i64 near,.int .i64 far] 341)] wx)∧Hid (Below w.heap.size w wx))
 case first =>
  by_cases q:hi<180
  ·have hh1:=hhl1.out
   rw[if_pos q] at hh1;have c:=m8 hi;have s:=ng hi;have sp:=sg (d:=hi) (by omega) (by omega);have HCL:=aa (fun W=>wj hi (by omega) (by omega) W);have HSL:=aa (fun W=>qQ hi (by omega) (by omega) W);obtain⟨cl,hcl⟩:=ag (ju hi);obtain⟨sl,hsl⟩:=ag (gJ hi);rw[hcl] at HCL c hh1;rw[hsl] at HSL s sp hh1;have pb:=m9 c.1 c.2 (by omega:0≤dx) hdx.2;obtain⟨pl,hpl⟩:=ag (dx*cl)
   have wpl:IntKind.i64.wrap (dx*cl)=pl:=by rw[hpl];exact IntWalk.i64_in _ (by omega)
   rw[hpl] at pb hh1;have HFL:=aa (fun W=>t8 pl sl W (by omega) (by omega) (by omega));obtain⟨fl,hfl⟩:=ag (gu pl sl);rw[hfl] at HFL hh1;clear hcl hsl hpl hfl c s sp pb hhl1 l1b;go_wp2_with fail;have hS2:=hS5.drew;have B2:=aa (B5.out.trans (Below.refl _ w5).drew);refine aJ (S:=Kb [(w.heap.size,.cells #[.int .i64 lo,.int .i64 hi,.int .i64 dx,.int .i64 near,.int .i64 far] 341)]) (last:=100) (by kernel_rfl) ?_;refine aR 0 56 (.int .i64 ((-r))) hS2 ?_;(try simp only[s3]);refine aR 1 57 (.pointer (some ⟨w.heap.size,2,none⟩)) hS2 ?_;(try simp only[s3]);refine tf 2 58 (.int .i64 dx) hS2 (fun V hV=>?_) ?_
   ·(have z:=ce (i:=2) (hV.1) rfl;simp[go_sem,execOp,z])
   (try simp only[s3]);refine aR 3 59 (.pointer (some ⟨w.heap.size,1,none⟩)) hS2 ?_;(try simp only[s3]);refine tf 4 60 (.int .i64 hi) hS2 (fun V hV=>?_) ?_
   ·(have z:=ce (i:=1) (hV.1) rfl;simp[go_sem,execOp,z])
   (try simp only[s3]);refine aR 7 63 (.pointer (some ⟨w.heap.size,1,none⟩)) hS2 ?_;(try simp only[s3]);refine tf 8 64 (.int .i64 hi) hS2 (fun V hV=>?_) ?_
   ·(have z:=ce (i:=1) (hV.1) rfl;simp[go_sem,execOp,z])
   (try simp only[s3]);refine ae 5 rfl (by kernel_rfl) (fun K hK=>?_);go_simp;go_at_call 359;refine(HCL.out _).mono ?_;rintro e wq3 ⟨rfl,hbq3⟩;have hS3:=hS2.next hbq3;have B3:=bU B2 hbq3;clear hbq3;go_wp2_with fail;refine hK.out _ _ (.inr hS3) ?_;clear hK K;(try simp only[Act.put,s3]);refine tf 6 62 (.int .i64 pl) hS3 (fun V hV=>?_) ?_
   ·simp[go_sem,execOp,wpl]
   (try simp only[s3]);refine ae 9 rfl (by kernel_rfl) (fun K hK=>?_);go_simp;go_at_call 360;refine(HSL.out _).mono ?_;rintro e wq4 ⟨rfl,hbq4⟩;have hS4:=hS3.next hbq4;have B4:=bU B3 hbq4;clear hbq4;go_wp2_with fail;refine hK.out _ _ (.inr hS4) ?_;clear hK K;(try simp only[Act.put,s3]);refine ae 10 rfl (by kernel_rfl) (fun K hK=>?_);go_simp;go_at_call 361;refine(HFL.out _).mono ?_;rintro e wq ⟨rfl,rfl⟩;go_wp2_with fail;refine hK.out _ _ (.inr hS4) ?_;clear hK K;(try simp only[Act.put,s3]);refine tf 11 67 (.int .i64 l1) hS4 (fun V hV=>?_) ?_
   ·simp[go_sem,execOp,hh1]
   (try simp only[s3]);refine aR 12 7 (.int .i64 l1) hS4 ?_;(try simp only[s3]);refine aw (by kernel_rfl) ?_ _;go_wp2_with fail;go_meet;exact⟨rfl,aa hS4,B4⟩
  ·have hh1:=hhl1.out
   rw[if_neg q] at hh1;subst hh1;go_wp2_with fail;go_meet;exact⟨rfl,aa hS5,B5⟩
 case rest =>
 obtain⟨rfl,HX,HB⟩:=hcut;obtain⟨w6,rfl⟩:∃x:World,x=wc:=⟨wc,rfl⟩;have hS6:=HX.out;have B6:=HB;clear HX HB hS5 B5 k0 k1 hhl1;have HLE:=aa (fun W=>vD df (by omega) (by omega) W)
 have leb:0≤fG df∧fG df≤3037000500:=by
  have:=sr (n:=df) (by omega);unfold fG
  split<;>omega
 obtain⟨least,hle⟩:=ag (fG df);rw[hle] at hR1 HLE leb;clear hle;go_upto_region 12 with fail;have hS2:=hS6.drew;have B2:=aa (B6.out.trans (Below.refl _ w6).drew);clear hS6 B6;refine aJ (S:=Kb [(w.heap.size,.cells #[.int .i64 lo,.int .i64 hi,.int .i64 dx,.int .i64 near,.int .i64 far] 341)]) (last:=100) (by kernel_rfl) ?_;refine aR 0 68 (.pointer (some ⟨w.heap.size,3,none⟩)) hS2 ?_;(try simp only[s3]);refine tf 1 69 (.int .i64 near) hS2 (fun V hV=>?_) ?_
 ·(have z:=ce (i:=3) (hV.1) rfl;simp[go_sem,execOp,z])
 (try simp only[s3]);refine aR 2 70 (.pointer (some ⟨w.heap.size,3,none⟩)) hS2 ?_;(try simp only[s3]);refine tf 3 71 (.int .i64 near) hS2 (fun V hV=>?_) ?_
 ·(have z:=ce (i:=3) (hV.1) rfl;simp[go_sem,execOp,z])
 (try simp only[s3]);refine tf 4 72 (.int .i64 n2) hS2 (fun V hV=>?_) ?_
 ·simp[go_sem,execOp,wn2]
 (try simp only[s3]);refine aR 6 74 (.pointer (some ⟨w.heap.size,2,none⟩)) hS2 ?_;(try simp only[s3]);refine tf 7 75 (.int .i64 dx) hS2 (fun V hV=>?_) ?_
 ·(have z:=ce (i:=2) (hV.1) rfl;simp[go_sem,execOp,z])
 (try simp only[s3]);refine aR 8 76 (.pointer (some ⟨w.heap.size,2,none⟩)) hS2 ?_;(try simp only[s3]);refine tf 9 77 (.int .i64 dx) hS2 (fun V hV=>?_) ?_
 ·(have z:=ce (i:=2) (hV.1) rfl;simp[go_sem,execOp,z])
 (try simp only[s3]);refine tf 10 78 (.int .i64 d2) hS2 (fun V hV=>?_) ?_
 ·simp[go_sem,execOp,wd2]
 (try simp only[s3]);refine ae 5 rfl (by kernel_rfl) (fun K hK=>?_);go_simp;go_at_call 361;refine(HCN.out _).mono ?_;rintro e wq ⟨rfl,rfl⟩;go_wp2_with fail;refine hK.out _ _ (.inr hS2) ?_;clear hK K;(try simp only[Act.put,s3]);refine tf 11 79 (.int .i64 df) hS2 (fun V hV=>?_) ?_
 ·simp[go_sem,execOp,wdf]
 (try simp only[s3]);refine ae 12 rfl (by kernel_rfl) (fun K hK=>?_);go_simp;go_at_call 362;refine(HLE.out _).mono ?_;rintro e wq ⟨rfl,rfl⟩;go_wp2_with fail;refine hK.out _ _ (.inr hS2) ?_;clear hK K;(try simp only[Act.put,s3]);refine aR 13 9 (.int .i64 least) hS2 ?_;(try simp only[s3]);refine aw (by kernel_rfl) ?_ _;obtain⟨w7,hw7⟩:∃W:World,W=w6.drew:=⟨_,rfl⟩;rw[←hw7] at hS2 B2 ⊢;clear hw7;have k0:=ce (i:=0) hS2.1 rfl;have k1:=ce (i:=1) hS2.1 rfl;clear HFF HCN HLE hS2
 by_cases q1:hi≤90
 ·have hR:=hR1.out
  rw[if_pos q1,if_pos q1] at hR;obtain⟨l2,hl2⟩:=ag (max l1 least);rw[hl2] at hR
  have l2b:-100000≤l2∧l2≤4000000000:=by omega
  by_cases q3:h1<l2
  ·rw[if_pos q3] at hR
   subst hR;clear hR1;go_wp2_with fail;refine bodyPost_ret (v:=dY none) (by simp[results,results348,go_sem,dY]) rfl ⟨rfl,B2.out⟩
  ·rw[if_neg q3] at hR
   subst hR;clear hR1;go_wp2_with fail;refine bodyPost_ret (v:=dY (some (l2,h1))) (by simp[results,results348,go_sem,dY]) rfl ⟨rfl,B2.out⟩
 ·by_cases q2:90≤lo
  ·have hR:=hR1.out
   rw[if_neg q1,if_neg q1,if_pos q2] at hR;obtain⟨h2,hh2⟩:=ag (min h1 (-least));rw[hh2] at hR
   have l2b:-4000000000≤h2∧h2≤100000:=by omega
   by_cases q3:h2<l1
   ·rw[if_pos q3] at hR
    subst hR;clear hR1;go_wp2_with fail;refine bodyPost_ret (v:=dY none) (by simp[results,results348,go_sem,dY]) rfl ⟨rfl,B2.out⟩
   ·rw[if_neg q3] at hR
    subst hR;clear hR1;go_wp2_with fail;refine bodyPost_ret (v:=dY (some (l1,h2))) (by simp[results,results348,go_sem,dY]) rfl ⟨rfl,B2.out⟩
  ·have hR:=hR1.out
   rw[if_neg q1,if_neg q1,if_neg q2] at hR
   by_cases q3:h1<l1
   ·rw[if_pos q3] at hR
    subst hR;clear hR1;go_wp2_with fail;refine bodyPost_ret (v:=dY none) (by simp[results,results348,go_sem,dY]) rfl ⟨rfl,B2.out⟩
   ·rw[if_neg q3] at hR
    subst hR;clear hR1;go_wp2_with fail;refine bodyPost_ret (v:=dY (some (l1,h1))) (by simp[results,results348,go_sem,dY]) rfl ⟨rfl,B2.out⟩
theorem fQ {P:Program} {fn:Func} {p u v:Tmp} {ty:TypeId} (h:fn.results=#[.cell p ty,.tmp u,.tmp v]) (tmps:Array Value) (w:World) (g:Nat) (t:TypeId) (cs:Array Value) (fr:Nat×Nat) (d:TypeDesc)
 (hp:tmps.getD p undef=.pointer (some ⟨g,0,none⟩)) (hg:w.heap[g]?=some (.cells cs t fr))
 (hu:P.underlying ty=some d) (hd:(match d with|.struct _|.array _ _=>true|_=>false)=true) (hi:(P.info? ty).map (·.size)=some cs.size) :
 (results fn tmps).run P w=.ok (.tuple #[.agg cs,tmps.getD u undef,tmps.getD v undef]) w:=by
 have hp':tmps[p]?.getD undef=.pointer (some ⟨g,0,none⟩):=by simpa using hp
 simp[results,h,hp',asAddr,run_loadVar_row w g t ty cs fr d hg hu hd hi]
theorem uY (c:Crs) (hc:-1000≤c.bearing∧c.bearing≤1000) (dx dy:Int) (hx:-100000≤dx∧dx≤100000) (hy:-100000≤dy∧dy≤100000) (w:World) :
 Calls prog 346 #[c.val,.int .i64 dx,.int .i64 dy] w fun r w'=>r=.returned (.tuple #[(if dx<0 then c.back else c).val,.int .i64 (if dx<0 then -dx else dx),.int .i64 (if dx<0 then -dy else dy)])∧Below w.heap.size w w':=by
 obtain⟨w0,hw0⟩:∃W,W=(w.alloc (.cells c.vals 46)).alloc (.cells crs0.vals 46):=⟨_,rfl⟩;have hb0:=aa (show Below w.heap.size w w0 by rw[hw0];exact(aD).alloc (by simp) _)
 have hx0:=aa (show Kb [(w.heap.size+1,.cells crs0.vals 46),(w.heap.size,.cells c.vals 46)] w0 by
  rw[hw0];have:=Kb.alloc (o:=.cells crs0.vals 46) (Kb.alloc (W:=w) (o:=.cells c.vals 46) (L:=[]) trivial)
  simpa using this)
 have HB:=aa (fun W=>zZ c hc W)
 by_cases h:dx<0
 ·rw[if_pos h,if_pos h,if_pos h]
  obtain⟨b,hb⟩:=ag c.back;rw[hb] at HB ⊢;obtain⟨c1,c2,c3,c4,c5,c6⟩:=c;obtain⟨b1,b2,b3,b4,b5,b6⟩:=b
  unfold Crs.val Crs.vals crs0 at *
  dsimp only at *
  have k0:=ce (i:=0) hx0.out.2.1 rfl;have k1:=ce (i:=1) hx0.out.2.1 rfl;have k2:=ce (i:=2) hx0.out.2.1 rfl;have k3:=ce (i:=3) hx0.out.2.1 rfl;have k4:=ce (i:=4) hx0.out.2.1 rfl;have k5:=ce (i:=5) hx0.out.2.1 rfl;clear hb;go_enter func346,ntmps346;go_upto_region 1 with fail;rw[←hw0];clear hw0;go_wp2_with fail;refine(HB.out _).mono ?_;rintro e w1 ⟨rfl,hb1⟩;have hx1:=aa (hx0.out.next hb1);have B1:=bU hb0 hb1;clear hx0 hb0 hb1 HB k0 k1 k2 k3 k4 k5;have z0:=ce (i:=0) hx1.out.1 rfl;have z1:=ce (i:=1) hx1.out.1 rfl;have z2:=ce (i:=2) hx1.out.1 rfl;have z3:=ce (i:=3) hx1.out.1 rfl;have z4:=ce (i:=4) hx1.out.1 rfl;have z5:=ce (i:=5) hx1.out.1 rfl;have y0:=cf (i:=0) hx1.out.1;have y1:=cf (i:=1) hx1.out.1;have y2:=cf (i:=2) hx1.out.1;have y3:=cf (i:=3) hx1.out.1;have y4:=cf (i:=4) hx1.out.1;have y5:=cf (i:=5) hx1.out.1;go_wp2_with fail;refine bodyPost_ret (fQ results346 _ _ (w.heap.size+1) 46 #[.int .i64 b1,.int .i64 b2,.int .i64 b3,.int .i64 b4,.int .i64 b5,.int .i64 b6] (0,0) _ rfl ?_ underlying46 rfl (by kernel_rfl)) rfl ⟨rfl,by exact(((((B1.out.setCell (by dsimp only;omega) _).setCell (by dsimp only;omega) _).setCell (by dsimp only;omega) _).setCell (by dsimp only;omega) _).setCell (by dsimp only;omega) _).setCell (by dsimp only;omega) _⟩;have hh:=(((((hx1.out.set (i:=0) (by simp) (.int .i64 b1)).set (i:=1) (by simp) (.int .i64 b2)).set (i:=2) (by simp) (.int .i64 b3)).set (i:=3) (by simp) (.int .i64 b4)).set (i:=4) (by simp) (.int .i64 b5)).set (i:=5) (by simp) (.int .i64 b6);simp only[List.setIfInBounds_toArray,List.set_cons_zero,List.set_cons_succ] at hh;exact hh.1
 ·rw[if_neg h,if_neg h,if_neg h]
  obtain⟨c1,c2,c3,c4,c5,c6⟩:=c
  unfold Crs.val Crs.vals crs0 at *
  dsimp only at *
  have k0:=ce (i:=0) hx0.out.2.1 rfl;have k1:=ce (i:=1) hx0.out.2.1 rfl;have k2:=ce (i:=2) hx0.out.2.1 rfl;have k3:=ce (i:=3) hx0.out.2.1 rfl;have k4:=ce (i:=4) hx0.out.2.1 rfl;have k5:=ce (i:=5) hx0.out.2.1 rfl;have z0:=ce (i:=0) hx0.out.1 rfl;have z1:=ce (i:=1) hx0.out.1 rfl;have z2:=ce (i:=2) hx0.out.1 rfl;have z3:=ce (i:=3) hx0.out.1 rfl;have z4:=ce (i:=4) hx0.out.1 rfl;have z5:=ce (i:=5) hx0.out.1 rfl;have y0:=cf (i:=0) hx0.out.1;have y1:=cf (i:=1) hx0.out.1;have y2:=cf (i:=2) hx0.out.1;have y3:=cf (i:=3) hx0.out.1;have y4:=cf (i:=4) hx0.out.1;have y5:=cf (i:=5) hx0.out.1;go_enter func346,ntmps346;go_upto_region 1 with fail;rw[←hw0];clear hw0;go_wp2_with fail;refine bodyPost_ret (fQ results346 _ _ (w.heap.size+1) 46 #[.int .i64 c1,.int .i64 c2,.int .i64 c3,.int .i64 c4,.int .i64 c5,.int .i64 c6] (0,0) _ rfl ?_ underlying46 rfl (by kernel_rfl)) rfl ⟨rfl,by exact(((((hb0.out.setCell (by dsimp only;omega) _).setCell (by dsimp only;omega) _).setCell (by dsimp only;omega) _).setCell (by dsimp only;omega) _).setCell (by dsimp only;omega) _).setCell (by dsimp only;omega) _⟩;have hh:=(((((hx0.out.set (i:=0) (by simp) (.int .i64 c1)).set (i:=1) (by simp) (.int .i64 c2)).set (i:=2) (by simp) (.int .i64 c3)).set (i:=3) (by simp) (.int .i64 c4)).set (i:=4) (by simp) (.int .i64 c5)).set (i:=5) (by simp) (.int .i64 c6);simp only[List.setIfInBounds_toArray,List.set_cons_zero,List.set_cons_succ] at hh;exact hh.1
theorem zC (w:World) (a:Option Addr) (cap:Nat) (l:List Vrn) (c:Crs) (e dx:Int) (hc:c.ok=true) (he:eN l c.year=some e) (hx:dx≠0∧-100000≤dx∧dx≤100000) (hl:l.length≤9223372036854775807) (h:VrnsAt w a l) :
 Calls prog 325 #[.slice a l.length cap,c.val,.int .i64 dx] w fun r w'=>r=.returned (dY (gD c e dx))∧Below w.heap.size w w':=by
 have hcb:=Crs.ok_iff.1 hc;have HT:=aa (fun W=>uY c (by omega) dx 0 hx.2 (by omega) W);obtain⟨d,hd⟩:=ag (if dx<0 then c.back else c);obtain⟨x,hx1⟩:=ag (if dx<0 then -dx else dx)
 have hdok:d.ok=true:=by rw[←hd];split;exact Crs.back_ok hc;exact hc
 have hdy:eN l d.year=some e:=by rw[←hd];split<;>exact he
 have hxb:1≤x∧x≤100000:=by rw[←hx1];split<;>omega
 rw[hd,hx1] at HT;have HA:=aa (fun W (hW:VrnsAt W a l)=>uK W a cap l d e x hdok hdy hl hW);have hm:=wh d e;have hdb:=Crs.ok_iff.1 hdok;have hlb:=Crs.len_bd hdok;have HQ:=aa (fun W=>yJ (eH d e-d.needle) (eH d e+d.needle) x d.near d.far (by omega) (by omega) hxb hlb.1 hlb.2 W)
 have hF:=fun a b=>qw (c:=d) (east:=e) (dx:=x) (a:=a) (b:=b)
 rw[←BC] at HQ;obtain⟨r,hr⟩:=ag (vQ d e x);rw[hr] at HQ hF
 have hR:gD c e dx=if dx<0 then r.map (fun p=>(-p.2,-p.1)) else r:=by
  unfold gD
  split
  ·rename_i q;rw[if_pos q] at hd hx1;rw[←hr,←hd,←hx1]
  ·rename_i q;rw[if_neg q] at hd hx1;rw[←hr,←hd,←hx1]
 rw[hR];obtain⟨R,hRR⟩:=ag (if dx<0 then r.map (fun p=>(-p.2,-p.1)) else r);rw[hRR];have HRR:=aa hRR;clear hRR;obtain⟨w0,hw0⟩:∃W,W=w.alloc (.cells c.vals 46):=⟨_,rfl⟩;have hv0:=aa (show VrnsAt w0 a l by rw[hw0];exact h.alloc _);have hb0:=aa (show Below w.heap.size w w0 by rw[hw0];exact aD);have hx0:=aa (show Kb [(w.heap.size,.cells c.vals 46)] w0 by rw[hw0];exact Kb.alloc trivial);obtain⟨Q,hQ⟩:=ag (Value.agg (qV (eH d e-d.needle) (eH d e+d.needle) x d.near d.far));rw[hQ] at HA HQ;obtain⟨c1,c2,c3,c4,c5,c6⟩:=c;obtain⟨d1,d2,d3,d4,d5,d6⟩:=d
 unfold Crs.val Crs.vals at *
 dsimp only at *
 have k0:=ce (i:=0) hx0.out.1 rfl;have k1:=ce (i:=1) hx0.out.1 rfl;have k2:=ce (i:=2) hx0.out.1 rfl;have k3:=ce (i:=3) hx0.out.1 rfl;have k4:=ce (i:=4) hx0.out.1 rfl;have k5:=ce (i:=5) hx0.out.1 rfl
 have hyy:(if dx<0 then -(0:Int) else 0)=0:=by split<;>rfl
 rw[hyy] at HT;clear hc he h hd hx1 hdok hdy hm hdb hlb hr hR hQ hcb hyy;obtain⟨hx1,hx2⟩:=hx;have HX1:=aa hx1;clear hx1;go_enter func325,ntmps325;go_upto_region 1 with fail;rw[←hw0];clear hw0;go_wp2_with fail;refine(HT.out _).mono ?_;rintro e w1 ⟨rfl,hb1⟩;have hv1:=aa (hv0.out.next hb1);have B1:=bU hb0 hb1;clear hx0 hb0 hb1 HT k0 k1 k2 k3 k4 k5 hv0;go_upto_region 2 with fail;obtain⟨w2,hw2⟩:∃W,W=w1.alloc (.cells #[.int .i64 d1,.int .i64 d2,.int .i64 d3,.int .i64 d4,.int .i64 d5,.int .i64 d6] 46):=⟨_,rfl⟩;have hv2:=aa (show VrnsAt w2 a l by rw[hw2];exact hv1.out.alloc _);have B2:=aa (show Below w.heap.size w w2 by rw[hw2];exact B1.out.alloc B1.out.size _);have hx2:=aa (show Kb [(w1.heap.size,.cells #[.int .i64 d1,.int .i64 d2,.int .i64 d3,.int .i64 d4,.int .i64 d5,.int .i64 d6] 46)] w2 by rw[hw2];exact Kb.alloc trivial);rw[←hw2];have k0:=ce (i:=0) hx2.out.1 rfl;have k1:=ce (i:=1) hx2.out.1 rfl;have k2:=ce (i:=2) hx2.out.1 rfl;have k3:=ce (i:=3) hx2.out.1 rfl;have k4:=ce (i:=4) hx2.out.1 rfl;have k5:=ce (i:=5) hx2.out.1 rfl;clear hw2;go_wp2_with fail;refine(HA.out _ hv2.out).mono ?_;rintro e w3 ⟨rfl,hb3⟩;have B3:=bU B2 hb3;clear hb3 k0 k1 k2 k3 k4 k5 HA hx2 hv2;go_wp2_with fail;refine(HQ.out _).mono ?_;rintro e w4 ⟨rfl,hb4⟩;have B4:=bU B3 hb4;clear hb4 HQ
 cases r with
 | none =>
   have HF:=aa hF;clear hF;unfold dY
   by_cases hneg:dx<0
   ·have HNG:=aa hneg
    go_wp2_with fail;refine bodyPost_ret (v:=dY R) (by rw[←HRR.out,if_pos HNG.out];simp[results,results325,go_sem,dY]) rfl ⟨rfl,B4.out⟩
   ·have HNG:=aa hneg
    go_wp2_with fail;refine bodyPost_ret (v:=dY R) (by rw[←HRR.out,if_neg (by have:=HNG.out;omega)];simp[results,results325,go_sem,dY]) rfl ⟨rfl,B4.out⟩
 | some p =>
   obtain⟨p1,p2⟩:=p;have hpb:=hF p1 p2 rfl;clear hF;unfold dY
   by_cases hneg:dx<0
   ·have HNG:=aa hneg
    go_wp2_with fail;refine bodyPost_ret (v:=dY R) (by rw[←HRR.out,if_pos HNG.out];simp[results,results325,go_sem,dY]) rfl ⟨rfl,B4.out⟩
   ·have HNG:=aa hneg
    go_wp2_with fail;refine bodyPost_ret (v:=dY R) (by rw[←HRR.out,if_neg (by have:=HNG.out;omega)];simp[results,results325,go_sem,dY]) rfl ⟨rfl,B4.out⟩
def eW (l:List Vrn) (c:Crs):Int:=if bz l≠0 then bz l else if c.ok=false then 1 else if eN l c.year=none then 20 else 0
structure VC (w:World) (a:Option Addr) (l:List Vrn) (g:Nat) (c:Crs) (W:World):Prop where
 b:Below w.heap.size w W
 v:VrnsAt W a l
 k:W.heap[g]?=some (.cells c.vals 46 (0,0))
theorem VC.next {w W W':World} {a:Option Addr} {l:List Vrn} {g:Nat} {c:Crs} (h:VC w a l g c W) (hb:Below W.heap.size W W'):VC w a l g c W':=⟨bB h.b hb,h.v.next hb,ac hb (lt_of_block h.k) h.k⟩
theorem VC.alloc {w W:World} {a:Option Addr} {l:List Vrn} {g:Nat} {c:Crs} (h:VC w a l g c W) (o:Obj):VC w a l g c (W.alloc o):=h.next (aD)
theorem AD (c:Crs) (h:c.ok=true) (w:World):Calls prog 320 #[c.val] w fun e w'=>e=.returned (.int .i64 0)∧Below w.heap.size w w':=by
 have:=fz c w;rwa [if_pos h] at this
theorem AG (c:Crs) (h:c.ok=false) (w:World):Calls prog 320 #[c.val] w fun e w'=>e=.returned (.int .i64 1)∧Below w.heap.size w w':=by
 have:=fz c w;rwa [if_neg (by rw[h];simp)] at this
theorem r9 (w:World) (a:Option Addr) (cap:Nat) (l:List Vrn) (c:Crs) (g:Nat) (hl:l.length≤9223372036854775807) (h:VrnsAt w a l) (hg:w.heap[g]?=some (.cells c.vals 46 (0,0))) :
 Calls prog 323 #[.slice a l.length cap,.slice (some ⟨g,0,none⟩) 1 1] w fun r w'=>r=.returned (.int .i64 (eW l c))∧Below w.heap.size w w':=by
 obtain⟨R,hR⟩:=ag (eW l c);rw[hR];unfold eW at hR;have J0:=aa (show VC w a l g c w from⟨Below.refl _ _,h,hg⟩);have HC:=aa (fun W (J:VC w a l g c W)=>gI W a cap l hl J.v);have HD:=aa (fun W (J:VC w a l g c W)=>nO W a cap l c.year hl J.v);have HO1:=aa (fun q:c.ok=true=>AD c q);have HO0:=aa (fun q:c.ok=false=>AG c q);obtain⟨z,hz⟩:=ag (bz l);obtain⟨ok,hok⟩:=ag c.ok;obtain⟨D,hD⟩:=ag (eN l c.year);rw[hz,hok,hD] at hR;rw[hz] at HC;rw[hD] at HD;rw[hok] at HO1 HO0;clear hz hok hD h hg
 by_cases h0:z=0
 rotate_left
 ·have hzb:(z != 0)=true:=by simpa using h0
  rw[if_pos h0] at hR;subst hR;clear h0;go_enter func323,ntmps323;go_wp2_with fail;refine(HC.out _ J0.out).mono ?_;rintro e w1 ⟨rfl,hb1⟩;go_wp2_with fail;go_ret;exact⟨rfl,hb1⟩
 subst h0;rw[if_neg (by omega)] at hR
 cases ok with
 | false =>
   rw[if_pos rfl] at hR;subst hR;have HO:=aa (HO0.out rfl);clear HO1 HO0 HD;obtain⟨c1,c2,c3,c4,c5,c6⟩:=c
   unfold Crs.val Crs.vals at *
   dsimp only at *
   go_enter func323,ntmps323;go_wp2_with fail;refine(HC.out _ J0.out).mono ?_;rintro e w1 ⟨rfl,hb1⟩;have J1:=aa (J0.out.next hb1);clear hb1 J0 HC;go_wp2_with fail
   go_loopw [20] (fun i wr=>i=.int .i64 0∧Hid (VC w a l g ⟨c1,c2,c3,c4,c5,c6⟩ wr)) (fun _ _=>0)
   case atStart=>exact⟨rfl,J1⟩
   case round =>
    obtain⟨rfl,J⟩:=hrel;have hK:wr.heap[g]?=some (.cells #[.int .i64 c1,.int .i64 c2,.int .i64 c3,.int .i64 c4,.int .i64 c5,.int .i64 c6] 46 (0,0)):=J.out.k;have k0:=ce (i:=0) hK rfl;have k1:=ce (i:=1) hK rfl;have k2:=ce (i:=2) hK rfl;have k3:=ce (i:=3) hK rfl;have k4:=ce (i:=4) hK rfl;have k5:=ce (i:=5) hK rfl;clear hK;go_wp2_with fail;refine(HO.out _).mono ?_;rintro e w2 ⟨rfl,hb2⟩;have J2:=aa ((J.out.alloc _).next hb2);go_wp2_with fail;go_ret;exact⟨rfl,J2.out.b⟩
 | true =>
   rw[if_neg (by simp)] at hR;have HO:=aa (HO1.out rfl);have HRR:=aa hR
   have HDD:=aa (show ∀W,VC w a l g c W→Calls prog 270 #[.slice a l.length cap,.int .i64 c.year] W fun e w'=>e=.returned (.tuple #[.int .i64 (D.getD 0),.bool D.isSome])∧Below W.heap.size W w' from by
    intro W hW;have:=HD.out W hW
    cases D<;>exact this)
   clear HO1 HO0 HD hR;obtain⟨c1,c2,c3,c4,c5,c6⟩:=c
   unfold Crs.val Crs.vals at *
   dsimp only at *
   go_enter func323,ntmps323;go_wp2_with fail;refine(HC.out _ J0.out).mono ?_;rintro e w1 ⟨rfl,hb1⟩;have J1:=aa (J0.out.next hb1);clear hb1 J0 HC;go_wp2_with fail
   go_loopw [20] (fun i wr=>∃k:Nat,k≤1∧i=.int .i64 k∧Hid (VC w a l g ⟨c1,c2,c3,c4,c5,c6⟩ wr)) (fun i _=>1-(intOf i).toNat)
   case atStart=>exact⟨0,by omega,rfl,J1⟩
   case round =>
    obtain⟨k,hk,rfl,J⟩:=hrel
    by_cases hk0:k=0
    ·subst hk0
     have hK:wr.heap[g]?=some (.cells #[.int .i64 c1,.int .i64 c2,.int .i64 c3,.int .i64 c4,.int .i64 c5,.int .i64 c6] 46 (0,0)):=J.out.k;have k0:=ce (i:=0) hK rfl;have k1:=ce (i:=1) hK rfl;have k2:=ce (i:=2) hK rfl;have k3:=ce (i:=3) hK rfl;have k4:=ce (i:=4) hK rfl;have k5:=ce (i:=5) hK rfl;clear hK;go_wp2_with fail;refine(HO.out _).mono ?_;rintro e w2 ⟨rfl,hb2⟩;have J2:=aa ((J.out.alloc _).next hb2);clear hb2;go_wp2_with fail;go_roundw
     case rel=>exact⟨1,by omega,rfl,J2⟩
     case measure=>simp[intOf]
    ·obtain rfl:k=1:=by omega
     clear J1 HO hk hk0;obtain⟨w3,rfl⟩:∃x:World,x=wr:=⟨wr,rfl⟩;have J3:=J;clear J;go_wp2_with fail
     cases hDs:D.isSome with
     | false =>
       have hDn:D=none:=by simpa using hDs
       have hR:=HRR.out;rw[if_pos hDn] at hR;subst hR;rw[hDs] at HDD;clear HRR hDs hDn
       go_loopw [32] (fun i wr=>i=.int .i64 0∧Hid (VC w a l g ⟨c1,c2,c3,c4,c5,c6⟩ wr)) (fun _ _=>0)
       case atStart=>exact⟨rfl,J3⟩
       case round =>
        obtain⟨rfl,J⟩:=hrel;have hK:wr.heap[g]?=some (.cells #[.int .i64 c1,.int .i64 c2,.int .i64 c3,.int .i64 c4,.int .i64 c5,.int .i64 c6] 46 (0,0)):=J.out.k;have k0:=ce (i:=0) hK rfl;have k1:=ce (i:=1) hK rfl;have k2:=ce (i:=2) hK rfl;have k3:=ce (i:=3) hK rfl;have k4:=ce (i:=4) hK rfl;have k5:=ce (i:=5) hK rfl;clear hK;go_wp2_with fail;refine(HDD.out _ (J.out.alloc _)).mono ?_;rintro e w4 ⟨rfl,hb4⟩;have J4:=aa ((J.out.alloc _).next hb4);go_wp2_with fail;go_ret;exact⟨rfl,J4.out.b⟩
     | true =>
       have hDn:D≠none:=by intro h;rw[h] at hDs;cases hDs
       have hR:=HRR.out;rw[if_neg hDn] at hR;subst hR;rw[hDs] at HDD;clear HRR hDs hDn
       go_loopw [32] (fun i wr=>∃k:Nat,k≤1∧i=.int .i64 k∧Hid (VC w a l g ⟨c1,c2,c3,c4,c5,c6⟩ wr)) (fun i _=>1-(intOf i).toNat)
       case atStart=>exact⟨0,by omega,rfl,J3⟩
       case round =>
        obtain⟨k,hk,rfl,J⟩:=hrel
        by_cases hk0:k=0
        ·subst hk0
         have hK:wr.heap[g]?=some (.cells #[.int .i64 c1,.int .i64 c2,.int .i64 c3,.int .i64 c4,.int .i64 c5,.int .i64 c6] 46 (0,0)):=J.out.k;have k0:=ce (i:=0) hK rfl;have k1:=ce (i:=1) hK rfl;have k2:=ce (i:=2) hK rfl;have k3:=ce (i:=3) hK rfl;have k4:=ce (i:=4) hK rfl;have k5:=ce (i:=5) hK rfl;clear hK;go_wp2_with fail;refine(HDD.out _ (J.out.alloc _)).mono ?_;rintro e w4 ⟨rfl,hb4⟩;have J4:=aa ((J.out.alloc _).next hb4);clear hb4;go_wp2_with fail;go_roundw
         case rel=>exact⟨_,_,_,_,_,_,_,_,_,_,_,_,_,_,_,_,_,_,⟨1,by omega,rfl,J4⟩,rfl⟩
         case measure=>simp[intOf]
        ·obtain rfl:k=1:=by omega
         go_wp2_with fail;go_ret;exact⟨rfl,J.out.b⟩
end Go.Proofs.YtkhemfnlflbniaaGreatDoor
namespace Go.Proofs.YtkhemfnlflbniaaGreatDoor
def bj (F:Fld):Nat:=1+F.lms.length*F.sts.length
theorem bb {F:Fld} (h:F.check=0):(2≤F.sts.length∧F.sts.length≤12)∧(1≤F.lms.length∧F.lms.length≤10)∧F.prs.length≤40∧bz F.vrs=0∧(F.prs.any (fun p=>!cH F.lms.length F.sts.length p))=false∧eQ F.sts F.sts.length=true∧eV F.prs F.prs.length=true∧F.sts.any (fun s=>!bm s.x 0 100000)=false:=by
 unfold Fld.check at h
 by_cases h1:12<F.sts.length∨10<F.lms.length∨40<F.prs.length
 ·rw[if_pos h1] at h;exact absurd h (by decide)
 rw[if_neg h1] at h
 by_cases h2:F.sts.length<2∨F.lms.length<1
 ·rw[if_pos h2] at h;exact absurd h (by decide)
 rw[if_neg h2] at h
 by_cases h3:bz F.vrs≠0
 ·rw[if_pos h3] at h;exact absurd h h3
 rw[if_neg h3] at h
 by_cases h4:(F.names.any fun l=>l.any fun s=>!bI s)=true
 ·rw[if_pos h4] at h;exact absurd h (by decide)
 rw[if_neg h4] at h
 by_cases h5:(F.names.any fun l=>cG l l.length)=true
 ·rw[if_pos h5] at h;exact absurd h (by decide)
 rw[if_neg h5] at h
 by_cases h6:(F.sts.any fun s=>!bm s.x 0 100000)=true
 ·rw[if_pos h6] at h;exact absurd h (by decide)
 rw[if_neg h6] at h
 by_cases h7:(F.prs.any fun p=>!cH F.lms.length F.sts.length p)=true
 ·rw[if_pos h7] at h;exact absurd h (by decide)
 rw[if_neg h7] at h
 by_cases h8:eQ F.sts F.sts.length=false
 ·rw[if_pos h8] at h;exact absurd h (by decide)
 rw[if_neg h8] at h
 by_cases h9:eV F.prs F.prs.length=false
 ·rw[if_pos h9] at h;exact absurd h (by decide)
 refine⟨by omega,by omega,by omega,Classical.not_not.1 h3,by simpa using h7,by simpa using h8,by simpa using h9,by simpa using h6⟩
theorem kX {F:Fld} (h:F.check=0):F.lms.length*F.sts.length≤120∧2≤F.lms.length*F.sts.length:=by
 have:=bb h
 constructor
 ·have:=Nat.mul_le_mul (show F.lms.length≤10 by omega) (show F.sts.length≤12 by omega)
  omega
 ·have:=Nat.mul_le_mul (show 1≤F.lms.length by omega) (show 2≤F.sts.length by omega)
  omega
theorem iH {F:Fld} {l s:Int} (hl:bZ F l=true) (hs:aY F s=true):1≤eE F l s∧eE F l s<bj F:=by
 unfold bZ aY bm at *
 simp only[Bool.and_eq_true,decide_eq_true_eq] at hl hs;have h1:0≤l*(F.sts.length:Int):=Int.mul_nonneg hl.1 (by omega);have h2:l*(F.sts.length:Int)≤((F.lms.length:Int)-1)*(F.sts.length:Int):=Int.mul_le_mul_of_nonneg_right hl.2 (by omega);rw[Int.sub_mul] at h2;unfold eE bj;rw[Int.natCast_add,Int.natCast_mul];omega
theorem zz {F:Fld} {l s k t:Int} (hs:aY F s=true) (ht:aY F t=true) (hlk:l<k):eE F l s<eE F k t:=by
 unfold aY bm at *
 simp only[Bool.and_eq_true,decide_eq_true_eq] at hs ht;have h2:(l+1)*(F.sts.length:Int)≤k*(F.sts.length:Int):=Int.mul_le_mul_of_nonneg_right (by omega) (by omega);rw[Int.add_mul] at h2;unfold eE;omega
theorem kW {N:Int} {b:Bd}:nJ N b=false↔(0≤b.src∧b.src<N)∧(0≤b.dst∧b.dst<N)∧b.src≠b.dst∧(-1000000≤b.most∧b.most≤1000000)∧0≤b.rcd∧b.rcd≤1000000:=by
 unfold nJ bm;simp only[Bool.or_eq_false_iff,Bool.not_eq_false',Bool.and_eq_true,decide_eq_true_eq,beq_eq_false_iff_ne];omega
theorem kO {N p q lo hi r:Int} (hp:0≤p∧p<N) (hq:0≤q∧q<N) (hn:p≠q) (hl:-1000000≤lo∧lo≤1000000) (hh:-1000000≤hi∧hi≤1000000) (hr:0≤r∧r≤1000000):∀b∈eG p q lo hi r,nJ N b=false:=by
 intro b hb;unfold eG at hb;rw[kW]
 rcases List.mem_cons.1 hb with rfl|hb
 ·exact⟨hp,hq,hn,hh,hr⟩
 ·rw[List.mem_singleton] at hb
  subst hb;exact⟨hq,hp,fun e=>hn e.symm,by show -1000000≤-lo∧-lo≤1000000;omega,hr⟩
theorem Bj {F:Fld}:∀b∈fF F,nJ (bj F) b=false:=by
 intro b hb;unfold fF at hb;rw[kW]
 rcases List.mem_append.1 hb with hb|hb
 ·obtain⟨p,hp,hb⟩:=List.mem_flatMap.1 hb
  rw[List.mem_range] at hp
  have:(bj F:Int)=1+(F.lms.length*F.sts.length:Nat):=by unfold bj;omega
  simp only[List.mem_cons,List.not_mem_nil,or_false] at hb
  rcases hb with rfl|rfl<;>dsimp<;>omega
 ·obtain⟨l,hl,hb⟩:=List.mem_flatMap.1 hb
  unfold lc at hb;obtain⟨s,hs,rfl⟩:=List.mem_map.1 hb;rw[List.mem_range] at hl hs
  have a:bZ F (l:Int)=true:=by unfold bZ bm;simp only[Bool.and_eq_true,decide_eq_true_eq];omega
  have a':bZ F ((l:Int)+1)=true:=by unfold bZ bm;simp only[Bool.and_eq_true,decide_eq_true_eq];omega
  have c:aY F (s:Int)=true:=by unfold aY bm;simp only[Bool.and_eq_true,decide_eq_true_eq];omega
  have:=iH a c;have:=iH a' c;have:=zz (F:=F) (l:=l) (k:=(l:Int)+1) c c (by omega);dsimp;omega
theorem Al {F:Fld} {c:Cll} {r:Int} (hc:dP F c=0) (hr:0≤r∧r≤1000000):∀b∈eo F c r,nJ (bj F) b=false:=by
 unfold dP at hc
 by_cases h0:cA F c=false
 ·rw[if_pos h0] at hc;exact absurd hc (by decide)
 rw[if_neg h0] at hc
 have h0:cA F c=true:=by simpa using h0
 have sized:∀low,(low=0∨low=-100000)→dQ c low=true→(-1000000≤c.sz-c.er∧c.sz-c.er≤1000000)∧-1000000≤c.sz+c.er∧c.sz+c.er≤1000000:=by
  intro low hlow h;unfold dQ bm at h;simp only[Bool.and_eq_true,decide_eq_true_eq] at h;omega
 have dif:∀{l s k t:Int},bZ F l=true→bZ F k=true→aY F s=true→aY F t=true→l≠k→eE F l s≠eE F k t:=by
  intro l s k t _ _ hs ht hlk
  rcases Int.lt_or_gt_of_ne hlk with q|q
  ·have:=zz (F:=F) hs ht q;omega
  ·have:=zz (F:=F) ht hs q;omega
 unfold cA at h0;unfold eo
 by_cases k1:c.kind=1
 ·rw[if_pos k1] at h0 ⊢
  unfold jQ at h0;simp only[Bool.and_eq_true] at h0;have p:=iH h0.1.1.2 h0.1.2;have z:=sized 0 (.inl rfl) h0.2;exact kO ⟨by omega,by omega⟩ ⟨by omega,p.2⟩ (by omega) z.1 z.2 hr
 rw[if_neg k1] at h0 ⊢
 by_cases k2:c.kind=2
 ·rw[if_pos k2] at h0 ⊢
  unfold jN at h0;simp only[Bool.and_eq_true,decide_eq_true_eq] at h0;have p:=iH h0.1.1.1.2.1 h0.1.2;have q:=iH h0.1.1.1.2.2 h0.1.2;have z:=sized 0 (.inl rfl) h0.2;exact kO ⟨by omega,p.2⟩ ⟨by omega,q.2⟩ (dif h0.1.1.1.2.1 h0.1.1.1.2.2 h0.1.2 h0.1.2 (by omega)) z.1 z.2 hr
 rw[if_neg k2] at h0 ⊢
 by_cases k3:c.kind=3
 ·rw[if_pos k3] at h0 ⊢
  unfold gB at h0;simp only[Bool.and_eq_true,decide_eq_true_eq] at h0;have p:=iH h0.1.1.1.2 h0.1.1.2.1;have q:=iH h0.1.1.1.2 h0.1.1.2.2
  have e:∀a b,(gV F c).1=some (a,b)→(-1000000≤a∧a≤1000000)∧-1000000≤b∧b≤1000000:=fun a b h=>by
   have:=zJ h;omega
  have z:(-1000000≤((gV F c).1.getD (0,0)).1∧((gV F c).1.getD (0,0)).1≤1000000)∧-1000000≤((gV F c).1.getD (0,0)).2∧((gV F c).1.getD (0,0)).2≤1000000:=by
   cases h:(gV F c).1 with
   | none=>simp
   | some p=>exact e p.1 p.2 h
  refine kO ⟨by omega,p.2⟩ ⟨by omega,q.2⟩ ?_ z.1 z.2 hr;unfold eE;omega
 rw[if_neg k3] at h0 ⊢
 by_cases k4:c.kind=4
 ·rw[if_pos k4] at h0 ⊢
  unfold jJ at h0;simp only[Bool.and_eq_true,decide_eq_true_eq] at h0;intro b hb;unfold li at hb;obtain⟨i,hi,hb⟩:=List.mem_flatMap.1 hb;rw[List.mem_range] at hi
  have hs:aY F (c.fr+(i:Int))=true:=by
   have:=h0.1.2
   unfold aY bm at *
   simp only[Bool.and_eq_true,decide_eq_true_eq] at *
   omega
  have p:=iH h0.1.1.1.2.1 hs;have q:=iH h0.1.1.1.2.2 hs;exact kO ⟨by omega,p.2⟩ ⟨by omega,q.2⟩ (dif h0.1.1.1.2.1 h0.1.1.1.2.2 hs hs (by omega)) ⟨by omega,by omega⟩ ⟨by omega,by omega⟩ hr b hb
 rw[if_neg k4] at h0 ⊢
 by_cases k5:c.kind=5
 ·rw[if_pos k5] at h0 ⊢
  unfold kd at h0;simp only[Bool.and_eq_true,decide_eq_true_eq] at h0;have p:=iH h0.1.1.1.2 h0.1.1.2.1;have q:=iH h0.1.1.1.2 h0.1.1.2.2;have z:=sized (-100000) (.inr rfl) h0.2;refine kO ⟨by omega,p.2⟩ ⟨by omega,q.2⟩ ?_ z.1 z.2 hr;unfold eE;omega
 rw[if_neg k5] at h0;cases h0
theorem vy {F:Fld} {l:List Rcd} (h:cX F l):∀b∈aj F l,nJ (bj F) b=false:=by
 intro b hb;unfold aj at hb
 rcases List.mem_append.1 hb with hb|hb
 ·exact Bj b hb
 ·obtain⟨r,hr,hb⟩:=List.mem_flatMap.1 hb
  have k:=h.each r hr;have i:=gU k.1;unfold Rcd.bs at hb;refine Al (c:=r.call) (r:=r.id) ?_ ⟨by omega,by omega⟩ b hb;have:=k.2;unfold Rcd.err at this
  by_cases q:dP F r.call≠0
  ·rw[if_pos q] at this;exact absurd this q
  ·exact Classical.not_not.1 q
theorem kf (F:Fld):∀k,((List.range k).flatMap (lc F)).length=k*F.sts.length
 | 0=>by simp
 | k+1=>by
   rw[List.range_succ,List.flatMap_append,List.length_append,kf F k];simp[lc,Nat.add_mul]
theorem wH (F:Fld):(fF F).length=2*(F.lms.length*F.sts.length)+(F.lms.length-1)*F.sts.length:=by
 unfold fF;rw[List.length_append,kf]
 have:∀n:Nat,((List.range n).flatMap fun(p:Nat)=>[(⟨0,(p:Int)+1,100000,0⟩:Bd),⟨(p:Int)+1,0,0,0⟩]).length=2*n:=by
  intro n
  induction n with
  | zero=>rfl
  | succ n ih=>rw[List.range_succ,List.flatMap_append,List.length_append,ih];simp;omega
 rw[this]
theorem ez {F:Fld} {l:List Rcd} (h:cX F l):aO (bj F) (aj F l)=0:=by
 have m:=kX h.fld;have g:=bb h.fld
 have hl:(aj F l).length≤2000:=by
  rcases h.bds with q|rfl
  ·exact q
  ·unfold aj
   simp only[List.flatMap_nil,List.append_nil];rw[wH];have:(F.lms.length-1)*F.sts.length≤F.lms.length*F.sts.length:=Nat.mul_le_mul_right _ (by omega);omega
 unfold aO;rw[if_neg (by unfold bj;omega)];unfold eI;rw[if_neg (by unfold bj;omega),if_neg];simp only[List.any_eq_true,not_exists,not_and,Bool.not_eq_true];exact vy h
theorem zW {F:Fld} {l m:List Rcd} (h:cX F l) (hs:m.Sublist l):cX F m:=by
 refine⟨h.fld,Nat.le_trans hs.length_le h.few,fun r hr=>h.each r (hs.subset hr),h.asc.sublist hs,?_⟩
 rcases h.bds with q|rfl
 ·left
  refine Nat.le_trans ?_ q;unfold aj;rw[List.length_append,List.length_append]
  have:∀{a b:List Rcd},a.Sublist b→(a.flatMap (Rcd.bs F)).length≤(b.flatMap (Rcd.bs F)).length:=by
   intro a b hab
   induction hab with
   | slnil=>exact Nat.le_refl _
   | cons x _ ih=>rw[List.flatMap_cons,List.length_append];omega
   | cons_cons x _ ih=>rw[List.flatMap_cons,List.flatMap_cons,List.length_append,List.length_append];omega
  have:=this hs;omega
 ·exact .inr (List.sublist_nil.1 hs)
structure Bl (N:Nat) (bs:List Bd):Prop where
 net:∃t,aG N bs=some t∧NetOk N bs t
 fin:∀a b,a<N→b<N→aF N bs a b<aC
def zL (N:Nat) (bs:List Bd) (a:Nat):List Int:=(List.range N).map fun v=>aF N bs a v-aF N bs a 0
theorem nI {N:Nat} {bs:List Bd} {a v:Nat} (h:v<N):(zL N bs a).getD v 0=aF N bs a v-aF N bs a 0:=by simp[zL,List.getD_eq_getElem?_getD,h]
theorem x9 {N:Nat} {bs:List Bd} (T:Bl N bs) {a:Nat} (ha:a<N):my N bs (zL N bs a):=by
 obtain⟨t,ht,H⟩:=T.net;have h0:=H.n0;have h1:=H.n1;refine⟨by simp[zL],by rw[nI (by omega)];omega,fun v hv=>?_,fun b hb=>?_⟩
 ·simp only[zL,List.mem_map,List.mem_range] at hv
  obtain⟨p,hp,rfl⟩:=hv;have:=ni H ht ha hp (T.fin a p ha hp);have:=ni H ht ha (b:=0) (by omega) (T.fin a 0 ha (by omega));omega
 ·obtain⟨v1,v2,v3,v4,v5,v6⟩:=H.valid b hb
  have hs:b.src.toNat<N:=by omega
  have hd:b.dst.toNat<N:=by omega
  have k:=eR H ht hb;have:=ko H ht ha hs hd (T.fin _ _ ha hs) k.1;unfold az;rw[nI hs,nI hd];omega
theorem qo {N:Nat} {bs:List Bd} (T:Bl N bs) {y:List Int} (k:my N bs y) {a b:Nat} (ha:a<N) (hb:b<N):y.getD b 0-y.getD a 0≤aF N bs a b:=by
 obtain⟨t,ht,H⟩:=T.net;exact uw H ht k ha hb (T.fin a b ha hb)
theorem pw {N:Nat} {bs:List Bd} (hN:N≤128) (hv:au N bs) {y:List Int} (k:my N bs y):mB N bs=true:=(wY hN hv).2 (fE k.pot)
def bi (F:Fld) (l:List Rcd):Bool:=mB (bj F) (aj F l)
def Bv (F:Fld) (l:List Rcd) (y:List Int):Prop:=my (bj F) (aj F l) y
def gT (F:Fld) (l:List Rcd) (p:Nat):Int:=-aF (bj F) (aj F l) p 0
def eF (F:Fld) (l:List Rcd) (p:Nat):Int:=aF (bj F) (aj F l) 0 p
theorem lL {F:Fld} {l:List Rcd} (h:cX F l):au (bj F) (aj F l):=fun b hb=>by
 have:=kW.1 (vy h b hb);exact⟨this.1.1,this.1.2,this.2.1.1,this.2.1.2,this.2.2.2.1.1,this.2.2.2.1.2⟩
theorem iC {F:Fld} (h:F.check=0):1≤bj F∧bj F≤128:=by
 have:=kX h;unfold bj;omega
theorem qP {F:Fld} {p:Nat} (h1:1≤p) (h2:p<bj F):(⟨0,(p:Int),100000,0⟩:Bd)∈fF F∧(⟨(p:Int),0,0,0⟩:Bd)∈fF F:=by
 have hp:p-1<F.lms.length*F.sts.length:=by unfold bj at h2;omega
 have e:((p-1:Nat):Int)+1=p:=by omega
 unfold fF
 constructor
 ·refine List.mem_append_left _ (List.mem_flatMap.2 ⟨p-1,List.mem_range.2 hp,?_⟩)
  rw[e];exact List.mem_cons_self ..
 ·refine List.mem_append_left _ (List.mem_flatMap.2 ⟨p-1,List.mem_range.2 hp,?_⟩)
  rw[e];exact List.mem_cons_of_mem _ (List.mem_cons_self ..)
theorem nj {F:Fld} {l:List Rcd} {b:Bd} (h:b∈fF F):b∈aj F l:=List.mem_append_left _ h
theorem zk {F:Fld} {l:List Rcd} (h:cX F l) (ha:bi F l=true):Bl (bj F) (aj F l):=by
 have hN:=iC h.fld;unfold bi mB at ha;obtain⟨t,ht⟩:=Option.isSome_iff_exists.1 ha
 have hl:(aj F l).length≤2002:=by
  have:=ez h;unfold aO at this
  by_cases q:128<(bj F:Int)∨2000<(aj F l).length
  ·rw[if_pos q] at this;exact absurd this (by decide)
  ·omega
 have H:=iB hN.1 hN.2 hl (lL h) ht
 have d0:∀p,p<bj F→aF (bj F) (aj F l) 0 p<aC∧aF (bj F) (aj F l) p 0<aC:=by
  intro p hp
  by_cases q:p=0
  ·subst q;rw[lU H ht hN.1];decide
  ·have m:=qP (F:=F) (p:=p) (by omega) hp
   exact⟨(eR H ht (nj m.1)).1,(eR H ht (nj m.2)).1⟩
 exact⟨⟨t,ht,H⟩,fun a b ha hb=>(ko H ht ha hN.1 hb (d0 a ha).2 (d0 b hb).1).1⟩
theorem wb {F:Fld} {l:List Rcd} (h:cX F l) (ha:bi F l=true) {p:Nat} (h1:1≤p) (h2:p<bj F):0≤gT F l p∧gT F l p≤eF F l p∧eF F l p≤100000:=by
 have T:=zk h ha;obtain⟨t,ht,H⟩:=T.net;have m:=qP (F:=F) h1 h2;have a:=(eR H ht (nj (l:=l) m.1)).2;have b:=(eR H ht (nj (l:=l) m.2)).2;have c:=x9 T (a:=0) H.n0;have d:=qo T c h2 (b:=0) H.n0;have e:=qo T c (a:=0) H.n0 h2;unfold gT eF;simp only[Int.toNat_natCast,Int.toNat_zero] at a b;omega
theorem xj {F:Fld} {l:List Rcd} (h:cX F l) {y:List Int} (k:Bv F l y):bi F l=true:=pw (iC h.fld).2 (lL h) k
theorem yS {F:Fld} {l:List Rcd} (h:cX F l) (ha:bi F l=true):Bv F l (qa (bj F) (aj F l))∧Bv F l (xC (bj F) (aj F l)):=by
 have T:=zk h ha;obtain⟨t,ht,H⟩:=T.net;exact⟨uF H ht fun p hp=>T.fin 0 p H.n0 hp,yh H ht fun p hp=>T.fin p 0 hp H.n0⟩
theorem Ap {F:Fld} {l m:List Rcd} (hs:∀r∈m,r∈l) {y:List Int} (k:Bv F l y):Bv F m y:=by
 refine⟨k.len,k.zero,k.bd,fun b hb=>k.pot b ?_⟩;unfold aj at hb ⊢
 rcases List.mem_append.1 hb with hb|hb
 ·exact List.mem_append_left _ hb
 ·obtain⟨r,hr,hb⟩:=List.mem_flatMap.1 hb
  exact List.mem_append_right _ (List.mem_flatMap.2 ⟨r,hs r hr,hb⟩)
theorem yw {F:Fld} {l m:List Rcd} (h:cX F l) (g:cX F m) (hs:∀r∈m,r∈l) (ha:bi F l=true):bi F m=true:=xj g (Ap hs (yS h ha).1)
def bE (l:List Rcd) (id:Int):List Rcd:=l.filter fun r=>decide (r.id≠id)
theorem nD {F:Fld} {c:Cll} {r:Int}:∀b∈eo F c r,b.rcd=r:=by
 have hp:∀{p q lo hi:Int},∀b∈eG p q lo hi r,b.rcd=r:=by
  intro p q lo hi b hb;unfold eG at hb;simp only[List.mem_cons,List.not_mem_nil,or_false] at hb
  rcases hb with rfl|rfl<;>rfl
 intro b hb;unfold eo at hb
 by_cases k1:c.kind=1
 ·rw[if_pos k1] at hb;exact hp b hb
 rw[if_neg k1] at hb
 by_cases k2:c.kind=2
 ·rw[if_pos k2] at hb;exact hp b hb
 rw[if_neg k2] at hb
 by_cases k3:c.kind=3
 ·rw[if_pos k3] at hb;exact hp b hb
 rw[if_neg k3] at hb
 by_cases k4:c.kind=4
 ·rw[if_pos k4] at hb
  unfold li at hb;obtain⟨i,_,hb⟩:=List.mem_flatMap.1 hb;exact hp b hb
 rw[if_neg k4] at hb
 by_cases k5:c.kind=5
 ·rw[if_pos k5] at hb;exact hp b hb
 rw[if_neg k5] at hb;cases hb
theorem Ay {F:Fld}:∀b∈fF F,b.rcd=0:=by
 intro b hb;unfold fF at hb
 rcases List.mem_append.1 hb with hb|hb
 ·obtain⟨p,_,hb⟩:=List.mem_flatMap.1 hb
  simp only[List.mem_cons,List.not_mem_nil,or_false] at hb
  rcases hb with rfl|rfl<;>rfl
 ·obtain⟨i,_,hb⟩:=List.mem_flatMap.1 hb
  unfold lc at hb;obtain⟨s,_,rfl⟩:=List.mem_map.1 hb
  rfl
theorem rU {F:Fld} {l:List Rcd} {id:Int} (hid:id≠0):(aj F l).filter (fun b=>decide (b.rcd≠id))=aj F (bE l id):=by
 unfold aj;rw[List.filter_append]
 congr 1
 ·refine List.filter_eq_self.2 fun b hb=>?_
  rw[Ay b hb,decide_eq_true_eq]
  exact fun e=>hid e.symm
 ·induction l with
  | nil=>rfl
  | cons r l ih =>
    unfold bE at ih ⊢;rw[List.flatMap_cons,List.filter_append,ih,List.filter_cons]
    by_cases q:r.id=id
    ·have:((r.bs F).filter fun b=>decide (b.rcd≠id))=[]:=List.filter_eq_nil_iff.2 fun b hb=>by
      have:=nD b hb;simp[this,q]
     rw[this];simp[q]
    ·have:((r.bs F).filter fun b=>decide (b.rcd≠id))=r.bs F:=List.filter_eq_self.2 fun b hb=>by
      have:=nD b hb;simp[this,q]
     rw[this];simp[q]
theorem qm {F:Fld} {c:Cll} {r:Int} (n:Nat):(li F c r n).length=2*n:=by
 unfold li
 induction n with
 | zero=>rfl
 | succ n ih=>rw[List.range_succ,List.flatMap_append,List.length_append,ih];simp[eG];omega
end Go.Proofs.YtkhemfnlflbniaaGreatDoor
