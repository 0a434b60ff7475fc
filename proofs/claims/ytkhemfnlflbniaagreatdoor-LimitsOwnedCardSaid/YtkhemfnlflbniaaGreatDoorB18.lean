/- Merged text 18 of the base: no function starts a goroutine. No conditions. -/
import Derived.Test.YtkhemfnlflbniaaGreatDoorCards
import Derived.KernelRfl
import Derived.ProofKit
set_option maxRecDepth 100000
namespace Go.Proofs.YtkhemfnlflbniaaGreatDoor
open Go
theorem xi {P:Program} (h:P.funcs.any Func.goes=false) (f:FuncId):P.goes f=false:=by
 have hg:∀g:Nat,(P.funcs[g]?).any Func.goes=false:=fun g=>by
  cases e:P.funcs[g]? with
  | none=>rfl
  | some fn =>
    have hm:fn∈P.funcs:=Array.mem_of_getElem? e;have:=Array.any_eq_false'.1 h fn hm;simpa using this
 unfold Program.goes;rw[h,Bool.and_false,Bool.or_false,List.any_eq_false];intro g _;rw[hg g];simp
theorem zN:Tryz.prog.funcs.any Func.goes=false:=by kernel_rfl
theorem Bu (c:OpenClaim) (h:c.start=.entering):false=c.goesBy Tryz.pinned.checked.prog:=by
 have hq:∀f,Tryz.prog.goes f=false:=xi zN
 show false=c.goesBy Tryz.prog
 unfold OpenClaim.goesBy Program.goesAt Program.goesFrom;rw[h]
 cases Tryz.prog.funcNamed c.func with
 | none=>rfl
 | some f=>simp[hq f]
end Go.Proofs.YtkhemfnlflbniaaGreatDoor
